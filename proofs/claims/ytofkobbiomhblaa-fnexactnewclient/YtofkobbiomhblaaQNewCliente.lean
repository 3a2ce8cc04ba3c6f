/- A part of the proof that FnExactNewClient returns true at every input: plain functions, contracts and lemmas. No conditions. -/
import Derived.Test.YtofkobbiomhblaaQNewClientd
set_option linter.unusedVariables false
set_option linter.unusedSimpArgs false
set_option linter.unusedSectionVars false
section
namespace Go.Proofs.Ytofkobbiomhblaa.A
open Go.RowKit Go.Proofs.YtofkobbiomhblaaW.PrintWords Go.Proofs.YtofkobbiomhblaaW.PrintLast Go.Proofs.YtofkobbiomhblaaW.PrintMore
attribute [local go_sem] max2_int min2_int max_two min_two max_three min_three max_four min_four
set_option maxHeartbeats 8000000 in
set_option maxRecDepth 100000 in
theorem laws_FnExactNewClient.calls (k : Nat) (a0 : Int) (r : Bool) (w : World) (h : laws_FnExactNewClient.f k a0 = some r) :
    Calls Try.prog 5 #[.int .i64 a0] w fun e w' => e = .returned (.bool r) ∧ Below w.heap.size w w' := by
  have hu40 := Try.underlying40
  have HB := Aside0.mk (Below.refl w.heap.size w)
  have H : ((spec_NewClient.f a0).bind fun bt416 => ((impl_NewClient.f a0).bind fun bt432 => ((laws_eqClient.f k bt432.1 bt432.2.1 bt432.2.2.1 bt432.2.2.2.1 bt432.2.2.2.2.1 bt432.2.2.2.2.2.1 bt432.2.2.2.2.2.2.1 bt432.2.2.2.2.2.2.2.1 bt432.2.2.2.2.2.2.2.2.1 bt432.2.2.2.2.2.2.2.2.2.1 bt416.1 bt416.2.1 bt416.2.2.1 bt416.2.2.2.1 bt416.2.2.2.2.1 bt416.2.2.2.2.2.1 bt416.2.2.2.2.2.2.1 bt416.2.2.2.2.2.2.2.1 bt416.2.2.2.2.2.2.2.2.1 bt416.2.2.2.2.2.2.2.2.2.1).bind fun t448 => (if t448 = true then (laws_FnExactNewClient.j0 k a0 bt416.2.2.2.2.2.2.2.2.2.2 (bt432.2.2.2.2.2.2.2.2.2.2 != bt416.2.2.2.2.2.2.2.2.2.2) bt416.1 bt416.2.1 bt416.2.2.1 bt416.2.2.2.1 bt416.2.2.2.2.1 bt416.2.2.2.2.2.1 bt416.2.2.2.2.2.2.1 bt416.2.2.2.2.2.2.2.1 bt416.2.2.2.2.2.2.2.2.1 bt416.2.2.2.2.2.2.2.2.2.1 bt432.1 bt432.2.1 bt432.2.2.1 bt432.2.2.2.1 bt432.2.2.2.2.1 bt432.2.2.2.2.2.1 bt432.2.2.2.2.2.2.1 bt432.2.2.2.2.2.2.2.1 bt432.2.2.2.2.2.2.2.2.1 bt432.2.2.2.2.2.2.2.2.2.1) else (laws_FnExactNewClient.j0 k a0 bt416.2.2.2.2.2.2.2.2.2.2 true bt416.1 bt416.2.1 bt416.2.2.1 bt416.2.2.2.1 bt416.2.2.2.2.1 bt416.2.2.2.2.2.1 bt416.2.2.2.2.2.2.1 bt416.2.2.2.2.2.2.2.1 bt416.2.2.2.2.2.2.2.2.1 bt416.2.2.2.2.2.2.2.2.2.1 bt432.1 bt432.2.1 bt432.2.2.1 bt432.2.2.2.1 bt432.2.2.2.2.1 bt432.2.2.2.2.2.1 bt432.2.2.2.2.2.2.1 bt432.2.2.2.2.2.2.2.1 bt432.2.2.2.2.2.2.2.2.1 bt432.2.2.2.2.2.2.2.2.2.1))))) = some r := h
  clear h
  replace H := Option.bind_eq_some_iff.mp H
  obtain ⟨⟨t416, t417, t418, t419, t420, t421, t422, t423, t424, t427, t430⟩, A20, H⟩ := H
  replace H : ((impl_NewClient.f a0).bind fun bt432 => ((laws_eqClient.f k bt432.1 bt432.2.1 bt432.2.2.1 bt432.2.2.2.1 bt432.2.2.2.2.1 bt432.2.2.2.2.2.1 bt432.2.2.2.2.2.2.1 bt432.2.2.2.2.2.2.2.1 bt432.2.2.2.2.2.2.2.2.1 bt432.2.2.2.2.2.2.2.2.2.1 t416 t417 t418 t419 t420 t421 t422 t423 t424 t427).bind fun t448 => (if t448 = true then (laws_FnExactNewClient.j0 k a0 t430 (bt432.2.2.2.2.2.2.2.2.2.2 != t430) t416 t417 t418 t419 t420 t421 t422 t423 t424 t427 bt432.1 bt432.2.1 bt432.2.2.1 bt432.2.2.2.1 bt432.2.2.2.2.1 bt432.2.2.2.2.2.1 bt432.2.2.2.2.2.2.1 bt432.2.2.2.2.2.2.2.1 bt432.2.2.2.2.2.2.2.2.1 bt432.2.2.2.2.2.2.2.2.2.1) else (laws_FnExactNewClient.j0 k a0 t430 true t416 t417 t418 t419 t420 t421 t422 t423 t424 t427 bt432.1 bt432.2.1 bt432.2.2.1 bt432.2.2.2.1 bt432.2.2.2.2.1 bt432.2.2.2.2.2.1 bt432.2.2.2.2.2.2.1 bt432.2.2.2.2.2.2.2.1 bt432.2.2.2.2.2.2.2.2.1 bt432.2.2.2.2.2.2.2.2.2.1)))) = some r := H
  have A2 := Aside0.mk A20
  clear A20
  replace H := Option.bind_eq_some_iff.mp H
  obtain ⟨⟨t432, t433, t434, t435, t436, t437, t438, t439, t440, t443, t446⟩, A30, H⟩ := H
  replace H : ((laws_eqClient.f k t432 t433 t434 t435 t436 t437 t438 t439 t440 t443 t416 t417 t418 t419 t420 t421 t422 t423 t424 t427).bind fun t448 => (if t448 = true then (laws_FnExactNewClient.j0 k a0 t430 (t446 != t430) t416 t417 t418 t419 t420 t421 t422 t423 t424 t427 t432 t433 t434 t435 t436 t437 t438 t439 t440 t443) else (laws_FnExactNewClient.j0 k a0 t430 true t416 t417 t418 t419 t420 t421 t422 t423 t424 t427 t432 t433 t434 t435 t436 t437 t438 t439 t440 t443))) = some r := H
  have A3 := Aside0.mk A30
  clear A30
  have HC4 := Aside0.mk H
  clear H
  go_enter Try.func5, Try.ntmps5
  go_upto_region 3 with (first | ((with_reducible refine gate_callee (f := 26) rfl ?_); refine goesL_ (some 13) rfl rfl Try.func26 (by kernel_rfl) rfl #[.int .i64 a0] rfl (by (try simp only [List.map_toArray, List.map_cons, List.map_nil]); first | done | rfl | (simp only [List.length_drop, List.length_take]; rfl)) ?_; (with_reducible refine (spec_NewClient.calls a0 t416 t417 t418 t419 t420 t421 t422 t423 t424 t427 t430 _ A2.out).mono ?_); rintro e w5 ⟨v425, v428, rfl, ho0, ho1, hb⟩; refine ⟨_, rfl, ?_⟩; have n0_ := Aside0.mk (Kd.R_lower ho0 (below_size (by repeat (first | (with_reducible first | exact HB.out | apply below_alloc | apply pw_below_drewN | apply below_drew1) | exact HB.out)))); have n1_ := Aside0.mk (Kd.R_lower ho1 (below_size (by repeat (first | (with_reducible first | exact HB.out | apply below_alloc | apply pw_below_drewN | apply below_drew1) | exact HB.out)))); have n2_ := Aside0.mk (below_step (by repeat (first | (with_reducible first | exact HB.out | apply below_alloc | apply pw_below_drewN | apply below_drew1) | exact HB.out)) hb); clear HB; have HO426 := n0_; have HO429 := n1_; have HB := n2_; clear n0_ n1_ n2_; (try clear hb); (try clear hb2); (try clear hk); (try clear hi); (try clear ho0); (try clear ho1)) | ((with_reducible refine gate_dst (N := 3) rfl ?_); refine box_event ?hg (N := 3) ?hd (cs := #[.int .i64 0, .int .i64 0, .bool false, .int .i64 0, .int .i64 0, .int .i64 0, .int .i64 0, .string (⟨#[]⟩ : ByteArray), .slice none 0 0, .slice none 0 0]) (t := 40) ?hr ?_; (case hd => rfl); (case hg => rfl); (case hr => first | (go_simp; done) | (go_simp; rfl)); intro gb431 hg w6 hbox hb; have n0_ := Aside0.mk (Kd.R_below (by (with_reducible repeat (first | apply Kd.R_alloc | apply Kd.R_drewN | apply Kd.R_drew)); exact HO426.out) hb); have n1_ := Aside0.mk (Kd.R_below (by (with_reducible repeat (first | apply Kd.R_alloc | apply Kd.R_drewN | apply Kd.R_drew)); exact HO429.out) hb); have n2_ := Aside0.mk (below_step (by repeat (first | (with_reducible first | exact HB.out | apply below_alloc | apply pw_below_drewN | apply below_drew1) | exact HB.out)) hb); have n3_ := Aside0.mk (hbox); have n4_ := Aside0.mk ((by rw [hg]; exact (below_size (by repeat (first | (with_reducible first | exact HB.out | apply below_alloc | apply pw_below_drewN | apply below_drew1) | exact HB.out))) : w.heap.size ≤ gb431)); have n5_ := Aside0.mk ((by rw [hg]; exact (below_size (by repeat (first | (with_reducible first | exact HB.out | apply below_alloc | apply pw_below_drewN | apply below_drew1) | exact HB.out))) : w.heap.size ≤ gb431)); clear HO426; clear HO429; clear HB; have HO426 := n0_; have HO429 := n1_; have HB := n2_; have BK431 := n3_; have GW431 := n4_; have GE431 := n5_; clear n0_ n1_ n2_ n3_ n4_ n5_; clear hb hbox hg; have hcz7_0 : w6.cell? ⟨gb431, 0, none⟩ = some (.int .i64 0) := (blk_cell BK431.out 0).trans rfl; have hcz7_1 : w6.cell? ⟨gb431, 1, none⟩ = some (.int .i64 0) := (blk_cell BK431.out 1).trans rfl; have hcz7_2 : w6.cell? ⟨gb431, 2, none⟩ = some (.bool false) := (blk_cell BK431.out 2).trans rfl; have hcz7_3 : w6.cell? ⟨gb431, 3, none⟩ = some (.int .i64 0) := (blk_cell BK431.out 3).trans rfl; have hcz7_4 : w6.cell? ⟨gb431, 4, none⟩ = some (.int .i64 0) := (blk_cell BK431.out 4).trans rfl; have hcz7_5 : w6.cell? ⟨gb431, 5, none⟩ = some (.int .i64 0) := (blk_cell BK431.out 5).trans rfl; have hcz7_6 : w6.cell? ⟨gb431, 6, none⟩ = some (.int .i64 0) := (blk_cell BK431.out 6).trans rfl; have hcz7_7 : w6.cell? ⟨gb431, 7, none⟩ = some (.string (⟨#[]⟩ : ByteArray)) := (blk_cell BK431.out 7).trans rfl; have hcz7_8 : w6.cell? ⟨gb431, 8, none⟩ = some (.slice none 0 0) := (blk_cell BK431.out 8).trans rfl; have hcz7_9 : w6.cell? ⟨gb431, 9, none⟩ = some (.slice none 0 0) := (blk_cell BK431.out 9).trans rfl; have hfz7_0 := blk_frozen BK431.out 0; have hfz7_1 := blk_frozen BK431.out 1; have hfz7_2 := blk_frozen BK431.out 2; have hfz7_3 := blk_frozen BK431.out 3; have hfz7_4 := blk_frozen BK431.out 4; have hfz7_5 := blk_frozen BK431.out 5; have hfz7_6 := blk_frozen BK431.out 6; have hfz7_7 := blk_frozen BK431.out 7; have hfz7_8 := blk_frozen BK431.out 8; have hfz7_9 := blk_frozen BK431.out 9; obtain ⟨Ao8, co8, eo8⟩ := Kd.R_slice HO426.out; subst eo8; obtain ⟨Ao9, co9, eo9⟩ := Kd.R_slice HO429.out; subst eo9) | ((with_reducible refine gate_callee (f := 27) rfl ?_); refine goesL_ (some 18) rfl rfl Try.func27 (by kernel_rfl) rfl #[.int .i64 a0] rfl (by (try simp only [List.map_toArray, List.map_cons, List.map_nil]); first | done | rfl | (simp only [List.length_drop, List.length_take]; rfl)) ?_; (with_reducible refine (impl_NewClient.calls a0 t432 t433 t434 t435 t436 t437 t438 t439 t440 t443 t446 _ A3.out).mono ?_); rintro e w10 ⟨v441, v444, rfl, ho0, ho1, hb⟩; refine ⟨_, rfl, ?_⟩; have n0_ := Aside0.mk (Kd.R_elder' (by (with_reducible repeat (first | apply Kd.R_alloc | apply Kd.R_drewN | apply Kd.R_drew)); exact (Kd.R_mono (Kd.R_far (p := ⟨gb431, 9, none⟩) (Kd.R_far (p := ⟨gb431, 8, none⟩) (Kd.R_far (p := ⟨gb431, 7, none⟩) (Kd.R_far (p := ⟨gb431, 6, none⟩) (Kd.R_far (p := ⟨gb431, 5, none⟩) (Kd.R_far (p := ⟨gb431, 4, none⟩) (Kd.R_far (p := ⟨gb431, 3, none⟩) (Kd.R_far (p := ⟨gb431, 2, none⟩) (Kd.R_far (p := ⟨gb431, 1, none⟩) (Kd.R_far (p := ⟨gb431, 0, none⟩) (Kd.R_types HO426.out BK431.out (by decide)) (fun _ hk => hk.2) (.int .i64 t416)) (fun _ hk => hk.2) (.int .i64 t417)) (fun _ hk => hk.2) (.bool t418)) (fun _ hk => hk.2) (.int .i64 t419)) (fun _ hk => hk.2) (.int .i64 t420)) (fun _ hk => hk.2) (.int .i64 t421)) (fun _ hk => hk.2) (.int .i64 t422)) (fun _ hk => hk.2) (.string t423)) (fun _ hk => hk.2) (.slice Ao8 t424.length co8)) (fun _ hk => hk.2) (.slice Ao9 t427.length co9)) (fun _ h_ => h_.1))) (Kd.R_base ho0) hb); have n1_ := Aside0.mk (Kd.R_elder' (by (with_reducible repeat (first | apply Kd.R_alloc | apply Kd.R_drewN | apply Kd.R_drew)); exact (Kd.R_mono (Kd.R_far (p := ⟨gb431, 9, none⟩) (Kd.R_far (p := ⟨gb431, 8, none⟩) (Kd.R_far (p := ⟨gb431, 7, none⟩) (Kd.R_far (p := ⟨gb431, 6, none⟩) (Kd.R_far (p := ⟨gb431, 5, none⟩) (Kd.R_far (p := ⟨gb431, 4, none⟩) (Kd.R_far (p := ⟨gb431, 3, none⟩) (Kd.R_far (p := ⟨gb431, 2, none⟩) (Kd.R_far (p := ⟨gb431, 1, none⟩) (Kd.R_far (p := ⟨gb431, 0, none⟩) (Kd.R_types HO429.out BK431.out (by decide)) (fun _ hk => hk.2) (.int .i64 t416)) (fun _ hk => hk.2) (.int .i64 t417)) (fun _ hk => hk.2) (.bool t418)) (fun _ hk => hk.2) (.int .i64 t419)) (fun _ hk => hk.2) (.int .i64 t420)) (fun _ hk => hk.2) (.int .i64 t421)) (fun _ hk => hk.2) (.int .i64 t422)) (fun _ hk => hk.2) (.string t423)) (fun _ hk => hk.2) (.slice Ao8 t424.length co8)) (fun _ hk => hk.2) (.slice Ao9 t427.length co9)) (fun _ h_ => h_.1))) (Kd.R_base ho1) hb); have n2_ := Aside0.mk (Kd.R_lower (Kd.R_new' ho0 (Kd.R_lt (by (with_reducible repeat (first | apply Kd.R_alloc | apply Kd.R_drewN | apply Kd.R_drew)); exact (Kd.R_mono (Kd.R_far (p := ⟨gb431, 9, none⟩) (Kd.R_far (p := ⟨gb431, 8, none⟩) (Kd.R_far (p := ⟨gb431, 7, none⟩) (Kd.R_far (p := ⟨gb431, 6, none⟩) (Kd.R_far (p := ⟨gb431, 5, none⟩) (Kd.R_far (p := ⟨gb431, 4, none⟩) (Kd.R_far (p := ⟨gb431, 3, none⟩) (Kd.R_far (p := ⟨gb431, 2, none⟩) (Kd.R_far (p := ⟨gb431, 1, none⟩) (Kd.R_far (p := ⟨gb431, 0, none⟩) (Kd.R_types HO426.out BK431.out (by decide)) (fun _ hk => hk.2) (.int .i64 t416)) (fun _ hk => hk.2) (.int .i64 t417)) (fun _ hk => hk.2) (.bool t418)) (fun _ hk => hk.2) (.int .i64 t419)) (fun _ hk => hk.2) (.int .i64 t420)) (fun _ hk => hk.2) (.int .i64 t421)) (fun _ hk => hk.2) (.int .i64 t422)) (fun _ hk => hk.2) (.string t423)) (fun _ hk => hk.2) (.slice Ao8 t424.length co8)) (fun _ hk => hk.2) (.slice Ao9 t427.length co9)) (fun _ h_ => h_.1))))) (below_size (by repeat (first | (with_reducible first | exact HB.out | apply below_alloc | apply pw_below_drewN | apply below_drew1 | refine below_set ?_ GE431.out) | exact HB.out)))); have n3_ := Aside0.mk (Kd.R_lower (Kd.R_new' ho1 (Kd.R_lt (by (with_reducible repeat (first | apply Kd.R_alloc | apply Kd.R_drewN | apply Kd.R_drew)); exact (Kd.R_mono (Kd.R_far (p := ⟨gb431, 9, none⟩) (Kd.R_far (p := ⟨gb431, 8, none⟩) (Kd.R_far (p := ⟨gb431, 7, none⟩) (Kd.R_far (p := ⟨gb431, 6, none⟩) (Kd.R_far (p := ⟨gb431, 5, none⟩) (Kd.R_far (p := ⟨gb431, 4, none⟩) (Kd.R_far (p := ⟨gb431, 3, none⟩) (Kd.R_far (p := ⟨gb431, 2, none⟩) (Kd.R_far (p := ⟨gb431, 1, none⟩) (Kd.R_far (p := ⟨gb431, 0, none⟩) (Kd.R_types HO429.out BK431.out (by decide)) (fun _ hk => hk.2) (.int .i64 t416)) (fun _ hk => hk.2) (.int .i64 t417)) (fun _ hk => hk.2) (.bool t418)) (fun _ hk => hk.2) (.int .i64 t419)) (fun _ hk => hk.2) (.int .i64 t420)) (fun _ hk => hk.2) (.int .i64 t421)) (fun _ hk => hk.2) (.int .i64 t422)) (fun _ hk => hk.2) (.string t423)) (fun _ hk => hk.2) (.slice Ao8 t424.length co8)) (fun _ hk => hk.2) (.slice Ao9 t427.length co9)) (fun _ h_ => h_.1))))) (below_size (by repeat (first | (with_reducible first | exact HB.out | apply below_alloc | apply pw_below_drewN | apply below_drew1 | refine below_set ?_ GE431.out) | exact HB.out)))); have n4_ := Aside0.mk (blk_below (g := gb431) (o := .cells #[.int .i64 t416, .int .i64 t417, .bool t418, .int .i64 t419, .int .i64 t420, .int .i64 t421, .int .i64 t422, .string t423, .slice Ao8 t424.length co8, .slice Ao9 t427.length co9] 40 (0, 0)) (by (with_reducible repeat (first | refine blk_drewN ?_ _ | refine blk_drew ?_ | refine blk_alloc ?_ _)); refine blk_put (cs := #[.int .i64 t416, .int .i64 t417, .bool t418, .int .i64 t419, .int .i64 t420, .int .i64 t421, .int .i64 t422, .string t423, .slice Ao8 t424.length co8, .slice none 0 0]) ?_ 9 _ rfl; (with_reducible repeat (first | refine blk_drewN ?_ _ | refine blk_drew ?_ | refine blk_alloc ?_ _)); refine blk_put (cs := #[.int .i64 t416, .int .i64 t417, .bool t418, .int .i64 t419, .int .i64 t420, .int .i64 t421, .int .i64 t422, .string t423, .slice none 0 0, .slice none 0 0]) ?_ 8 _ rfl; (with_reducible repeat (first | refine blk_drewN ?_ _ | refine blk_drew ?_ | refine blk_alloc ?_ _)); refine blk_put (cs := #[.int .i64 t416, .int .i64 t417, .bool t418, .int .i64 t419, .int .i64 t420, .int .i64 t421, .int .i64 t422, .string (⟨#[]⟩ : ByteArray), .slice none 0 0, .slice none 0 0]) ?_ 7 _ rfl; (with_reducible repeat (first | refine blk_drewN ?_ _ | refine blk_drew ?_ | refine blk_alloc ?_ _)); refine blk_put (cs := #[.int .i64 t416, .int .i64 t417, .bool t418, .int .i64 t419, .int .i64 t420, .int .i64 t421, .int .i64 0, .string (⟨#[]⟩ : ByteArray), .slice none 0 0, .slice none 0 0]) ?_ 6 _ rfl; (with_reducible repeat (first | refine blk_drewN ?_ _ | refine blk_drew ?_ | refine blk_alloc ?_ _)); refine blk_put (cs := #[.int .i64 t416, .int .i64 t417, .bool t418, .int .i64 t419, .int .i64 t420, .int .i64 0, .int .i64 0, .string (⟨#[]⟩ : ByteArray), .slice none 0 0, .slice none 0 0]) ?_ 5 _ rfl; (with_reducible repeat (first | refine blk_drewN ?_ _ | refine blk_drew ?_ | refine blk_alloc ?_ _)); refine blk_put (cs := #[.int .i64 t416, .int .i64 t417, .bool t418, .int .i64 t419, .int .i64 0, .int .i64 0, .int .i64 0, .string (⟨#[]⟩ : ByteArray), .slice none 0 0, .slice none 0 0]) ?_ 4 _ rfl; (with_reducible repeat (first | refine blk_drewN ?_ _ | refine blk_drew ?_ | refine blk_alloc ?_ _)); refine blk_put (cs := #[.int .i64 t416, .int .i64 t417, .bool t418, .int .i64 0, .int .i64 0, .int .i64 0, .int .i64 0, .string (⟨#[]⟩ : ByteArray), .slice none 0 0, .slice none 0 0]) ?_ 3 _ rfl; (with_reducible repeat (first | refine blk_drewN ?_ _ | refine blk_drew ?_ | refine blk_alloc ?_ _)); refine blk_put (cs := #[.int .i64 t416, .int .i64 t417, .bool false, .int .i64 0, .int .i64 0, .int .i64 0, .int .i64 0, .string (⟨#[]⟩ : ByteArray), .slice none 0 0, .slice none 0 0]) ?_ 2 _ rfl; (with_reducible repeat (first | refine blk_drewN ?_ _ | refine blk_drew ?_ | refine blk_alloc ?_ _)); refine blk_put (cs := #[.int .i64 t416, .int .i64 0, .bool false, .int .i64 0, .int .i64 0, .int .i64 0, .int .i64 0, .string (⟨#[]⟩ : ByteArray), .slice none 0 0, .slice none 0 0]) ?_ 1 _ rfl; (with_reducible repeat (first | refine blk_drewN ?_ _ | refine blk_drew ?_ | refine blk_alloc ?_ _)); refine blk_put (cs := #[.int .i64 0, .int .i64 0, .bool false, .int .i64 0, .int .i64 0, .int .i64 0, .int .i64 0, .string (⟨#[]⟩ : ByteArray), .slice none 0 0, .slice none 0 0]) ?_ 0 _ rfl; (with_reducible repeat (first | refine blk_drewN ?_ _ | refine blk_drew ?_ | refine blk_alloc ?_ _)); exact BK431.out) hb); have n5_ := Aside0.mk (below_step (by repeat (first | (with_reducible first | exact HB.out | apply below_alloc | apply pw_below_drewN | apply below_drew1 | refine below_set ?_ GE431.out) | exact HB.out)) hb); clear HO426; clear HO429; clear BK431; clear HB; have HO426 := n0_; have HO429 := n1_; have HO442 := n2_; have HO445 := n3_; have BK431 := n4_; have HB := n5_; clear n0_ n1_ n2_ n3_ n4_ n5_; (try clear hb); (try clear hb2); (try clear hk); (try clear hi); (try clear ho0); (try clear ho1)) | ((with_reducible refine gate_dst (N := 5) rfl ?_); refine box_event ?hg (N := 5) ?hd (cs := #[.int .i64 0, .int .i64 0, .bool false, .int .i64 0, .int .i64 0, .int .i64 0, .int .i64 0, .string (⟨#[]⟩ : ByteArray), .slice none 0 0, .slice none 0 0]) (t := 40) ?hr ?_; (case hd => rfl); (case hg => rfl); (case hr => first | (go_simp; done) | (go_simp; rfl)); intro gb447 hg w11 hbox hb; have n0_ := Aside0.mk (Kd.R_below (by (with_reducible repeat (first | apply Kd.R_alloc | apply Kd.R_drewN | apply Kd.R_drew)); exact HO426.out) hb); have n1_ := Aside0.mk (Kd.R_below (by (with_reducible repeat (first | apply Kd.R_alloc | apply Kd.R_drewN | apply Kd.R_drew)); exact HO429.out) hb); have n2_ := Aside0.mk (Kd.R_below (by (with_reducible repeat (first | apply Kd.R_alloc | apply Kd.R_drewN | apply Kd.R_drew)); exact HO442.out) hb); have n3_ := Aside0.mk (Kd.R_below (by (with_reducible repeat (first | apply Kd.R_alloc | apply Kd.R_drewN | apply Kd.R_drew)); exact HO445.out) hb); have n4_ := Aside0.mk (blk_below (g := gb431) (o := .cells #[.int .i64 t416, .int .i64 t417, .bool t418, .int .i64 t419, .int .i64 t420, .int .i64 t421, .int .i64 t422, .string t423, .slice Ao8 t424.length co8, .slice Ao9 t427.length co9] 40 (0, 0)) (by (with_reducible repeat (first | refine blk_drewN ?_ _ | refine blk_drew ?_ | refine blk_alloc ?_ _)); exact BK431.out) hb); have n5_ := Aside0.mk (below_step (by repeat (first | (with_reducible first | exact HB.out | apply below_alloc | apply pw_below_drewN | apply below_drew1 | refine below_set ?_ GE431.out) | exact HB.out)) hb); have n6_ := Aside0.mk (hbox); have n7_ := Aside0.mk ((by rw [hg]; exact (below_size (by repeat (first | (with_reducible first | exact HB.out | apply below_alloc | apply pw_below_drewN | apply below_drew1 | refine below_set ?_ GE431.out) | exact HB.out))) : w.heap.size ≤ gb447)); have n8_ := Aside0.mk ((by rw [hg]; exact (below_size (by repeat (first | (with_reducible first | exact HB.out | apply below_alloc | apply pw_below_drewN | apply below_drew1 | refine below_set ?_ GE431.out) | exact HB.out))) : w.heap.size ≤ gb447)); have n9_ := Aside0.mk ((by rw [hg]; exact Nat.ne_of_lt (blk_lt (g := gb431) (o := .cells #[.int .i64 t416, .int .i64 t417, .bool t418, .int .i64 t419, .int .i64 t420, .int .i64 t421, .int .i64 t422, .string t423, .slice Ao8 t424.length co8, .slice Ao9 t427.length co9] 40 (0, 0)) (by (with_reducible repeat (first | refine blk_drewN ?_ _ | refine blk_drew ?_ | refine blk_alloc ?_ _)); exact BK431.out)) : gb431 ≠ gb447)); have n10_ := Aside0.mk ((by rw [hg]; exact Nat.ne_of_gt (blk_lt (g := gb431) (o := .cells #[.int .i64 t416, .int .i64 t417, .bool t418, .int .i64 t419, .int .i64 t420, .int .i64 t421, .int .i64 t422, .string t423, .slice Ao8 t424.length co8, .slice Ao9 t427.length co9] 40 (0, 0)) (by (with_reducible repeat (first | refine blk_drewN ?_ _ | refine blk_drew ?_ | refine blk_alloc ?_ _)); exact BK431.out)) : gb447 ≠ gb431)); clear HO426; clear HO429; clear HO442; clear HO445; clear BK431; clear HB; have HO426 := n0_; have HO429 := n1_; have HO442 := n2_; have HO445 := n3_; have BK431 := n4_; have HB := n5_; have BK447 := n6_; have GW447 := n7_; have GE447 := n8_; have NB431_447 := n9_; have NB447_431 := n10_; clear n0_ n1_ n2_ n3_ n4_ n5_ n6_ n7_ n8_ n9_ n10_; clear hb hbox hg; have hnb12 := NB447_431.out; have hnc12 := NB431_447.out; have hcz13_0 : w11.cell? ⟨gb447, 0, none⟩ = some (.int .i64 0) := (blk_cell BK447.out 0).trans rfl; have hcz13_1 : w11.cell? ⟨gb447, 1, none⟩ = some (.int .i64 0) := (blk_cell BK447.out 1).trans rfl; have hcz13_2 : w11.cell? ⟨gb447, 2, none⟩ = some (.bool false) := (blk_cell BK447.out 2).trans rfl; have hcz13_3 : w11.cell? ⟨gb447, 3, none⟩ = some (.int .i64 0) := (blk_cell BK447.out 3).trans rfl; have hcz13_4 : w11.cell? ⟨gb447, 4, none⟩ = some (.int .i64 0) := (blk_cell BK447.out 4).trans rfl; have hcz13_5 : w11.cell? ⟨gb447, 5, none⟩ = some (.int .i64 0) := (blk_cell BK447.out 5).trans rfl; have hcz13_6 : w11.cell? ⟨gb447, 6, none⟩ = some (.int .i64 0) := (blk_cell BK447.out 6).trans rfl; have hcz13_7 : w11.cell? ⟨gb447, 7, none⟩ = some (.string (⟨#[]⟩ : ByteArray)) := (blk_cell BK447.out 7).trans rfl; have hcz13_8 : w11.cell? ⟨gb447, 8, none⟩ = some (.slice none 0 0) := (blk_cell BK447.out 8).trans rfl; have hcz13_9 : w11.cell? ⟨gb447, 9, none⟩ = some (.slice none 0 0) := (blk_cell BK447.out 9).trans rfl; have hfz13_0 := blk_frozen BK447.out 0; have hfz13_1 := blk_frozen BK447.out 1; have hfz13_2 := blk_frozen BK447.out 2; have hfz13_3 := blk_frozen BK447.out 3; have hfz13_4 := blk_frozen BK447.out 4; have hfz13_5 := blk_frozen BK447.out 5; have hfz13_6 := blk_frozen BK447.out 6; have hfz13_7 := blk_frozen BK447.out 7; have hfz13_8 := blk_frozen BK447.out 8; have hfz13_9 := blk_frozen BK447.out 9; obtain ⟨Ao14, co14, eo14⟩ := Kd.R_slice HO442.out; subst eo14; obtain ⟨Ao15, co15, eo15⟩ := Kd.R_slice HO445.out; subst eo15))
  (try simp only [Act.put, List.setIfInBounds_toArray, List.set_cons_zero, List.set_cons_succ])
  go_cut [29] (fun v29 wc => ∃ (kq : Nat) (x29_3 : Bool), v29 = .bool x29_3 ∧ Aside0 (laws_FnExactNewClient.j0 kq a0 t430 x29_3 t416 t417 t418 t419 t420 t421 t422 t423 t424 t427 t432 t433 t434 t435 t436 t437 t438 t439 t440 t443 = some r) ∧ Aside0 (kq ≤ k) ∧ Aside0 (Kd.R k151 151 wc w.heap.size (fun k_ => some k_ ≠ ((.slice Ao14 t440.length co14) : Value).ownBlock) (.slice Ao8 t424.length co8) t424) ∧ Aside0 (Kd.R k149 149 wc w.heap.size (fun k_ => some k_ ≠ ((.slice Ao15 t443.length co15) : Value).ownBlock) (.slice Ao9 t427.length co9) t427) ∧ Aside0 (Kd.R k151 151 wc w.heap.size (fun k_ => some k_ ≠ ((.slice Ao8 t424.length co8) : Value).ownBlock) (.slice Ao14 t440.length co14) t440) ∧ Aside0 (Kd.R k149 149 wc w.heap.size (fun k_ => some k_ ≠ ((.slice Ao9 t427.length co9) : Value).ownBlock) (.slice Ao15 t443.length co15) t443) ∧ Aside0 (wc.heap[gb431]? = some (.cells #[.int .i64 t416, .int .i64 t417, .bool t418, .int .i64 t419, .int .i64 t420, .int .i64 t421, .int .i64 t422, .string t423, (.slice Ao8 t424.length co8), (.slice Ao9 t427.length co9)] 40 (0, 0))) ∧ Aside0 (wc.heap[gb447]? = some (.cells #[.int .i64 t432, .int .i64 t433, .bool t434, .int .i64 t435, .int .i64 t436, .int .i64 t437, .int .i64 t438, .string t439, (.slice Ao14 t440.length co14), (.slice Ao15 t443.length co15)] 40 (0, 0))) ∧ Aside0 (Below w.heap.size w wc))
  case first =>
    have H := HC4.out
    clear HC4
    replace H := Option.bind_eq_some_iff.mp H
    obtain ⟨t448, A160, H⟩ := H
    replace H : (if t448 = true then (laws_FnExactNewClient.j0 k a0 t430 (t446 != t430) t416 t417 t418 t419 t420 t421 t422 t423 t424 t427 t432 t433 t434 t435 t436 t437 t438 t439 t440 t443) else (laws_FnExactNewClient.j0 k a0 t430 true t416 t417 t418 t419 t420 t421 t422 t423 t424 t427 t432 t433 t434 t435 t436 t437 t438 t439 t440 t443)) = some r := H
    have A16 := Aside0.mk A160
    clear A160
    by_cases c17 : t448 = true
    · subst c17
      have H1 : (laws_FnExactNewClient.j0 k a0 t430 (t446 != t430) t416 t417 t418 t419 t420 t421 t422 t423 t424 t427 t432 t433 t434 t435 t436 t437 t438 t439 t440 t443) = some r := by rw [if_pos rfl] at H; exact H
      clear H
      have H := H1
      clear H1
      have H' := Aside0.mk H
      clear H
      have hnb18 := NB447_431.out
      have hnc18 := NB431_447.out
      have hcz19_0 : w11.cell? ⟨gb447, 0, none⟩ = some (.int .i64 0) := (blk_cell BK447.out 0).trans rfl
      have hcz19_1 : w11.cell? ⟨gb447, 1, none⟩ = some (.int .i64 0) := (blk_cell BK447.out 1).trans rfl
      have hcz19_2 : w11.cell? ⟨gb447, 2, none⟩ = some (.bool false) := (blk_cell BK447.out 2).trans rfl
      have hcz19_3 : w11.cell? ⟨gb447, 3, none⟩ = some (.int .i64 0) := (blk_cell BK447.out 3).trans rfl
      have hcz19_4 : w11.cell? ⟨gb447, 4, none⟩ = some (.int .i64 0) := (blk_cell BK447.out 4).trans rfl
      have hcz19_5 : w11.cell? ⟨gb447, 5, none⟩ = some (.int .i64 0) := (blk_cell BK447.out 5).trans rfl
      have hcz19_6 : w11.cell? ⟨gb447, 6, none⟩ = some (.int .i64 0) := (blk_cell BK447.out 6).trans rfl
      have hcz19_7 : w11.cell? ⟨gb447, 7, none⟩ = some (.string (⟨#[]⟩ : ByteArray)) := (blk_cell BK447.out 7).trans rfl
      have hcz19_8 : w11.cell? ⟨gb447, 8, none⟩ = some (.slice none 0 0) := (blk_cell BK447.out 8).trans rfl
      have hcz19_9 : w11.cell? ⟨gb447, 9, none⟩ = some (.slice none 0 0) := (blk_cell BK447.out 9).trans rfl
      have hfz19_0 := blk_frozen BK447.out 0
      have hfz19_1 := blk_frozen BK447.out 1
      have hfz19_2 := blk_frozen BK447.out 2
      have hfz19_3 := blk_frozen BK447.out 3
      have hfz19_4 := blk_frozen BK447.out 4
      have hfz19_5 := blk_frozen BK447.out 5
      have hfz19_6 := blk_frozen BK447.out 6
      have hfz19_7 := blk_frozen BK447.out 7
      have hfz19_8 := blk_frozen BK447.out 8
      have hfz19_9 := blk_frozen BK447.out 9
      have hcz20_0 : w11.cell? ⟨gb431, 0, none⟩ = some (.int .i64 t416) := (blk_cell BK431.out 0).trans rfl
      have hcz20_1 : w11.cell? ⟨gb431, 1, none⟩ = some (.int .i64 t417) := (blk_cell BK431.out 1).trans rfl
      have hcz20_2 : w11.cell? ⟨gb431, 2, none⟩ = some (.bool t418) := (blk_cell BK431.out 2).trans rfl
      have hcz20_3 : w11.cell? ⟨gb431, 3, none⟩ = some (.int .i64 t419) := (blk_cell BK431.out 3).trans rfl
      have hcz20_4 : w11.cell? ⟨gb431, 4, none⟩ = some (.int .i64 t420) := (blk_cell BK431.out 4).trans rfl
      have hcz20_5 : w11.cell? ⟨gb431, 5, none⟩ = some (.int .i64 t421) := (blk_cell BK431.out 5).trans rfl
      have hcz20_6 : w11.cell? ⟨gb431, 6, none⟩ = some (.int .i64 t422) := (blk_cell BK431.out 6).trans rfl
      have hcz20_7 : w11.cell? ⟨gb431, 7, none⟩ = some (.string t423) := (blk_cell BK431.out 7).trans rfl
      have hcz20_8 : w11.cell? ⟨gb431, 8, none⟩ = some (.slice Ao8 t424.length co8) := (blk_cell BK431.out 8).trans rfl
      have hcz20_9 : w11.cell? ⟨gb431, 9, none⟩ = some (.slice Ao9 t427.length co9) := (blk_cell BK431.out 9).trans rfl
      have hfz20_0 := blk_frozen BK431.out 0
      have hfz20_1 := blk_frozen BK431.out 1
      have hfz20_2 := blk_frozen BK431.out 2
      have hfz20_3 := blk_frozen BK431.out 3
      have hfz20_4 := blk_frozen BK431.out 4
      have hfz20_5 := blk_frozen BK431.out 5
      have hfz20_6 := blk_frozen BK431.out 6
      have hfz20_7 := blk_frozen BK431.out 7
      have hfz20_8 := blk_frozen BK431.out 8
      have hfz20_9 := blk_frozen BK431.out 9
      go_wp2_with (first | ((with_reducible refine gate_callee (f := 28) rfl ?_); refine goesL_ (some 23) rfl rfl Try.func28 (by kernel_rfl) rfl #[.agg #[.int .i64 t432, .int .i64 t433, .bool t434, .int .i64 t435, .int .i64 t436, .int .i64 t437, .int .i64 t438, .string t439, .slice Ao14 t440.length co14, .slice Ao15 t443.length co15], .agg #[.int .i64 t416, .int .i64 t417, .bool t418, .int .i64 t419, .int .i64 t420, .int .i64 t421, .int .i64 t422, .string t423, .slice Ao8 t424.length co8, .slice Ao9 t427.length co9]] rfl (by (try simp only [List.map_toArray, List.map_cons, List.map_nil]); first | done | rfl | (simp only [List.length_drop, List.length_take]; rfl)) ?_; (with_reducible refine (laws_eqClient.calls k t432 t433 t434 t435 t436 t437 t438 t439 _ _ t440 _ _ t443 t416 t417 t418 t419 t420 t421 t422 t423 _ _ t424 _ _ t427 true _ ?side1 ?side2 ?side3 ?side4 ?side5 ?side6 ?side7 ?side8 A16.out).mono ?_); (case side1 => refine (Kd.R_reads' (e := 151) (base := w.heap.size) (ok := fun k_ => (True ∧ some k_ ≠ (.slice Ao8 t424.length co8 : Value).ownBlock)) (n := t440.length) (c := co14) ?_).2.2; exact (by (with_reducible repeat (first | apply Kd.R_alloc | apply Kd.R_drewN | apply Kd.R_drew)); exact (Kd.R_mono (Kd.R_far (p := ⟨gb447, 9, none⟩) (Kd.R_far (p := ⟨gb447, 8, none⟩) (Kd.R_far (p := ⟨gb447, 7, none⟩) (Kd.R_far (p := ⟨gb447, 6, none⟩) (Kd.R_far (p := ⟨gb447, 5, none⟩) (Kd.R_far (p := ⟨gb447, 4, none⟩) (Kd.R_far (p := ⟨gb447, 3, none⟩) (Kd.R_far (p := ⟨gb447, 2, none⟩) (Kd.R_far (p := ⟨gb447, 1, none⟩) (Kd.R_far (p := ⟨gb447, 0, none⟩) (Kd.R_types HO442.out BK447.out (by decide)) (fun _ hk => hk.2) (.int .i64 t432)) (fun _ hk => hk.2) (.int .i64 t433)) (fun _ hk => hk.2) (.bool t434)) (fun _ hk => hk.2) (.int .i64 t435)) (fun _ hk => hk.2) (.int .i64 t436)) (fun _ hk => hk.2) (.int .i64 t437)) (fun _ hk => hk.2) (.int .i64 t438)) (fun _ hk => hk.2) (.string t439)) (fun _ hk => hk.2) (.slice Ao14 t440.length co14)) (fun _ hk => hk.2) (.slice Ao15 t443.length co15)) (fun _ h_ => h_.1)))); (case side2 => exact (Kd.R_reads' HO442.out).2.1); (case side3 => refine (Kd.R_reads' (e := 149) (base := w.heap.size) (ok := fun k_ => (True ∧ some k_ ≠ (.slice Ao9 t427.length co9 : Value).ownBlock)) (n := t443.length) (c := co15) ?_).2.2; exact (by (with_reducible repeat (first | apply Kd.R_alloc | apply Kd.R_drewN | apply Kd.R_drew)); exact (Kd.R_mono (Kd.R_far (p := ⟨gb447, 9, none⟩) (Kd.R_far (p := ⟨gb447, 8, none⟩) (Kd.R_far (p := ⟨gb447, 7, none⟩) (Kd.R_far (p := ⟨gb447, 6, none⟩) (Kd.R_far (p := ⟨gb447, 5, none⟩) (Kd.R_far (p := ⟨gb447, 4, none⟩) (Kd.R_far (p := ⟨gb447, 3, none⟩) (Kd.R_far (p := ⟨gb447, 2, none⟩) (Kd.R_far (p := ⟨gb447, 1, none⟩) (Kd.R_far (p := ⟨gb447, 0, none⟩) (Kd.R_types HO445.out BK447.out (by decide)) (fun _ hk => hk.2) (.int .i64 t432)) (fun _ hk => hk.2) (.int .i64 t433)) (fun _ hk => hk.2) (.bool t434)) (fun _ hk => hk.2) (.int .i64 t435)) (fun _ hk => hk.2) (.int .i64 t436)) (fun _ hk => hk.2) (.int .i64 t437)) (fun _ hk => hk.2) (.int .i64 t438)) (fun _ hk => hk.2) (.string t439)) (fun _ hk => hk.2) (.slice Ao14 t440.length co14)) (fun _ hk => hk.2) (.slice Ao15 t443.length co15)) (fun _ h_ => h_.1)))); (case side4 => exact (Kd.R_reads' HO445.out).2.1); (case side5 => refine (Kd.R_reads' (e := 151) (base := w.heap.size) (ok := fun k_ => (True ∧ some k_ ≠ (.slice Ao14 t440.length co14 : Value).ownBlock)) (n := t424.length) (c := co8) ?_).2.2; exact (by (with_reducible repeat (first | apply Kd.R_alloc | apply Kd.R_drewN | apply Kd.R_drew)); exact (Kd.R_mono (Kd.R_far (p := ⟨gb447, 9, none⟩) (Kd.R_far (p := ⟨gb447, 8, none⟩) (Kd.R_far (p := ⟨gb447, 7, none⟩) (Kd.R_far (p := ⟨gb447, 6, none⟩) (Kd.R_far (p := ⟨gb447, 5, none⟩) (Kd.R_far (p := ⟨gb447, 4, none⟩) (Kd.R_far (p := ⟨gb447, 3, none⟩) (Kd.R_far (p := ⟨gb447, 2, none⟩) (Kd.R_far (p := ⟨gb447, 1, none⟩) (Kd.R_far (p := ⟨gb447, 0, none⟩) (Kd.R_types HO426.out BK447.out (by decide)) (fun _ hk => hk.2) (.int .i64 t432)) (fun _ hk => hk.2) (.int .i64 t433)) (fun _ hk => hk.2) (.bool t434)) (fun _ hk => hk.2) (.int .i64 t435)) (fun _ hk => hk.2) (.int .i64 t436)) (fun _ hk => hk.2) (.int .i64 t437)) (fun _ hk => hk.2) (.int .i64 t438)) (fun _ hk => hk.2) (.string t439)) (fun _ hk => hk.2) (.slice Ao14 t440.length co14)) (fun _ hk => hk.2) (.slice Ao15 t443.length co15)) (fun _ h_ => h_.1)))); (case side6 => exact (Kd.R_reads' HO426.out).2.1); (case side7 => refine (Kd.R_reads' (e := 149) (base := w.heap.size) (ok := fun k_ => (True ∧ some k_ ≠ (.slice Ao15 t443.length co15 : Value).ownBlock)) (n := t427.length) (c := co9) ?_).2.2; exact (by (with_reducible repeat (first | apply Kd.R_alloc | apply Kd.R_drewN | apply Kd.R_drew)); exact (Kd.R_mono (Kd.R_far (p := ⟨gb447, 9, none⟩) (Kd.R_far (p := ⟨gb447, 8, none⟩) (Kd.R_far (p := ⟨gb447, 7, none⟩) (Kd.R_far (p := ⟨gb447, 6, none⟩) (Kd.R_far (p := ⟨gb447, 5, none⟩) (Kd.R_far (p := ⟨gb447, 4, none⟩) (Kd.R_far (p := ⟨gb447, 3, none⟩) (Kd.R_far (p := ⟨gb447, 2, none⟩) (Kd.R_far (p := ⟨gb447, 1, none⟩) (Kd.R_far (p := ⟨gb447, 0, none⟩) (Kd.R_types HO429.out BK447.out (by decide)) (fun _ hk => hk.2) (.int .i64 t432)) (fun _ hk => hk.2) (.int .i64 t433)) (fun _ hk => hk.2) (.bool t434)) (fun _ hk => hk.2) (.int .i64 t435)) (fun _ hk => hk.2) (.int .i64 t436)) (fun _ hk => hk.2) (.int .i64 t437)) (fun _ hk => hk.2) (.int .i64 t438)) (fun _ hk => hk.2) (.string t439)) (fun _ hk => hk.2) (.slice Ao14 t440.length co14)) (fun _ hk => hk.2) (.slice Ao15 t443.length co15)) (fun _ h_ => h_.1)))); (case side8 => exact (Kd.R_reads' HO429.out).2.1); rintro e w21 ⟨rfl, hb⟩; refine ⟨_, rfl, ?_⟩; have n0_ := Aside0.mk (Kd.R_below (by (with_reducible repeat (first | apply Kd.R_alloc | apply Kd.R_drewN | apply Kd.R_drew)); exact (Kd.R_mono (Kd.R_far (p := ⟨gb447, 9, none⟩) (Kd.R_far (p := ⟨gb447, 8, none⟩) (Kd.R_far (p := ⟨gb447, 7, none⟩) (Kd.R_far (p := ⟨gb447, 6, none⟩) (Kd.R_far (p := ⟨gb447, 5, none⟩) (Kd.R_far (p := ⟨gb447, 4, none⟩) (Kd.R_far (p := ⟨gb447, 3, none⟩) (Kd.R_far (p := ⟨gb447, 2, none⟩) (Kd.R_far (p := ⟨gb447, 1, none⟩) (Kd.R_far (p := ⟨gb447, 0, none⟩) (Kd.R_types HO426.out BK447.out (by decide)) (fun _ hk => hk.2) (.int .i64 t432)) (fun _ hk => hk.2) (.int .i64 t433)) (fun _ hk => hk.2) (.bool t434)) (fun _ hk => hk.2) (.int .i64 t435)) (fun _ hk => hk.2) (.int .i64 t436)) (fun _ hk => hk.2) (.int .i64 t437)) (fun _ hk => hk.2) (.int .i64 t438)) (fun _ hk => hk.2) (.string t439)) (fun _ hk => hk.2) (.slice Ao14 t440.length co14)) (fun _ hk => hk.2) (.slice Ao15 t443.length co15)) (fun _ h_ => h_.1))) hb); have n1_ := Aside0.mk (Kd.R_below (by (with_reducible repeat (first | apply Kd.R_alloc | apply Kd.R_drewN | apply Kd.R_drew)); exact (Kd.R_mono (Kd.R_far (p := ⟨gb447, 9, none⟩) (Kd.R_far (p := ⟨gb447, 8, none⟩) (Kd.R_far (p := ⟨gb447, 7, none⟩) (Kd.R_far (p := ⟨gb447, 6, none⟩) (Kd.R_far (p := ⟨gb447, 5, none⟩) (Kd.R_far (p := ⟨gb447, 4, none⟩) (Kd.R_far (p := ⟨gb447, 3, none⟩) (Kd.R_far (p := ⟨gb447, 2, none⟩) (Kd.R_far (p := ⟨gb447, 1, none⟩) (Kd.R_far (p := ⟨gb447, 0, none⟩) (Kd.R_types HO429.out BK447.out (by decide)) (fun _ hk => hk.2) (.int .i64 t432)) (fun _ hk => hk.2) (.int .i64 t433)) (fun _ hk => hk.2) (.bool t434)) (fun _ hk => hk.2) (.int .i64 t435)) (fun _ hk => hk.2) (.int .i64 t436)) (fun _ hk => hk.2) (.int .i64 t437)) (fun _ hk => hk.2) (.int .i64 t438)) (fun _ hk => hk.2) (.string t439)) (fun _ hk => hk.2) (.slice Ao14 t440.length co14)) (fun _ hk => hk.2) (.slice Ao15 t443.length co15)) (fun _ h_ => h_.1))) hb); have n2_ := Aside0.mk (Kd.R_below (by (with_reducible repeat (first | apply Kd.R_alloc | apply Kd.R_drewN | apply Kd.R_drew)); exact (Kd.R_mono (Kd.R_far (p := ⟨gb447, 9, none⟩) (Kd.R_far (p := ⟨gb447, 8, none⟩) (Kd.R_far (p := ⟨gb447, 7, none⟩) (Kd.R_far (p := ⟨gb447, 6, none⟩) (Kd.R_far (p := ⟨gb447, 5, none⟩) (Kd.R_far (p := ⟨gb447, 4, none⟩) (Kd.R_far (p := ⟨gb447, 3, none⟩) (Kd.R_far (p := ⟨gb447, 2, none⟩) (Kd.R_far (p := ⟨gb447, 1, none⟩) (Kd.R_far (p := ⟨gb447, 0, none⟩) (Kd.R_types HO442.out BK447.out (by decide)) (fun _ hk => hk.2) (.int .i64 t432)) (fun _ hk => hk.2) (.int .i64 t433)) (fun _ hk => hk.2) (.bool t434)) (fun _ hk => hk.2) (.int .i64 t435)) (fun _ hk => hk.2) (.int .i64 t436)) (fun _ hk => hk.2) (.int .i64 t437)) (fun _ hk => hk.2) (.int .i64 t438)) (fun _ hk => hk.2) (.string t439)) (fun _ hk => hk.2) (.slice Ao14 t440.length co14)) (fun _ hk => hk.2) (.slice Ao15 t443.length co15)) (fun _ h_ => h_.1))) hb); have n3_ := Aside0.mk (Kd.R_below (by (with_reducible repeat (first | apply Kd.R_alloc | apply Kd.R_drewN | apply Kd.R_drew)); exact (Kd.R_mono (Kd.R_far (p := ⟨gb447, 9, none⟩) (Kd.R_far (p := ⟨gb447, 8, none⟩) (Kd.R_far (p := ⟨gb447, 7, none⟩) (Kd.R_far (p := ⟨gb447, 6, none⟩) (Kd.R_far (p := ⟨gb447, 5, none⟩) (Kd.R_far (p := ⟨gb447, 4, none⟩) (Kd.R_far (p := ⟨gb447, 3, none⟩) (Kd.R_far (p := ⟨gb447, 2, none⟩) (Kd.R_far (p := ⟨gb447, 1, none⟩) (Kd.R_far (p := ⟨gb447, 0, none⟩) (Kd.R_types HO445.out BK447.out (by decide)) (fun _ hk => hk.2) (.int .i64 t432)) (fun _ hk => hk.2) (.int .i64 t433)) (fun _ hk => hk.2) (.bool t434)) (fun _ hk => hk.2) (.int .i64 t435)) (fun _ hk => hk.2) (.int .i64 t436)) (fun _ hk => hk.2) (.int .i64 t437)) (fun _ hk => hk.2) (.int .i64 t438)) (fun _ hk => hk.2) (.string t439)) (fun _ hk => hk.2) (.slice Ao14 t440.length co14)) (fun _ hk => hk.2) (.slice Ao15 t443.length co15)) (fun _ h_ => h_.1))) hb); have n4_ := Aside0.mk (blk_below (g := gb431) (o := .cells #[.int .i64 t416, .int .i64 t417, .bool t418, .int .i64 t419, .int .i64 t420, .int .i64 t421, .int .i64 t422, .string t423, .slice Ao8 t424.length co8, .slice Ao9 t427.length co9] 40 (0, 0)) (by (with_reducible repeat (first | refine blk_drewN ?_ _ | refine blk_drew ?_ | refine blk_alloc ?_ _)); refine blk_far ?_ NB431_447.out _; (with_reducible repeat (first | refine blk_drewN ?_ _ | refine blk_drew ?_ | refine blk_alloc ?_ _)); refine blk_far ?_ NB431_447.out _; (with_reducible repeat (first | refine blk_drewN ?_ _ | refine blk_drew ?_ | refine blk_alloc ?_ _)); refine blk_far ?_ NB431_447.out _; (with_reducible repeat (first | refine blk_drewN ?_ _ | refine blk_drew ?_ | refine blk_alloc ?_ _)); refine blk_far ?_ NB431_447.out _; (with_reducible repeat (first | refine blk_drewN ?_ _ | refine blk_drew ?_ | refine blk_alloc ?_ _)); refine blk_far ?_ NB431_447.out _; (with_reducible repeat (first | refine blk_drewN ?_ _ | refine blk_drew ?_ | refine blk_alloc ?_ _)); refine blk_far ?_ NB431_447.out _; (with_reducible repeat (first | refine blk_drewN ?_ _ | refine blk_drew ?_ | refine blk_alloc ?_ _)); refine blk_far ?_ NB431_447.out _; (with_reducible repeat (first | refine blk_drewN ?_ _ | refine blk_drew ?_ | refine blk_alloc ?_ _)); refine blk_far ?_ NB431_447.out _; (with_reducible repeat (first | refine blk_drewN ?_ _ | refine blk_drew ?_ | refine blk_alloc ?_ _)); refine blk_far ?_ NB431_447.out _; (with_reducible repeat (first | refine blk_drewN ?_ _ | refine blk_drew ?_ | refine blk_alloc ?_ _)); refine blk_far ?_ NB431_447.out _; (with_reducible repeat (first | refine blk_drewN ?_ _ | refine blk_drew ?_ | refine blk_alloc ?_ _)); exact BK431.out) hb); have n5_ := Aside0.mk (blk_below (g := gb447) (o := .cells #[.int .i64 t432, .int .i64 t433, .bool t434, .int .i64 t435, .int .i64 t436, .int .i64 t437, .int .i64 t438, .string t439, .slice Ao14 t440.length co14, .slice Ao15 t443.length co15] 40 (0, 0)) (by (with_reducible repeat (first | refine blk_drewN ?_ _ | refine blk_drew ?_ | refine blk_alloc ?_ _)); refine blk_put (cs := #[.int .i64 t432, .int .i64 t433, .bool t434, .int .i64 t435, .int .i64 t436, .int .i64 t437, .int .i64 t438, .string t439, .slice Ao14 t440.length co14, .slice none 0 0]) ?_ 9 _ rfl; (with_reducible repeat (first | refine blk_drewN ?_ _ | refine blk_drew ?_ | refine blk_alloc ?_ _)); refine blk_put (cs := #[.int .i64 t432, .int .i64 t433, .bool t434, .int .i64 t435, .int .i64 t436, .int .i64 t437, .int .i64 t438, .string t439, .slice none 0 0, .slice none 0 0]) ?_ 8 _ rfl; (with_reducible repeat (first | refine blk_drewN ?_ _ | refine blk_drew ?_ | refine blk_alloc ?_ _)); refine blk_put (cs := #[.int .i64 t432, .int .i64 t433, .bool t434, .int .i64 t435, .int .i64 t436, .int .i64 t437, .int .i64 t438, .string (⟨#[]⟩ : ByteArray), .slice none 0 0, .slice none 0 0]) ?_ 7 _ rfl; (with_reducible repeat (first | refine blk_drewN ?_ _ | refine blk_drew ?_ | refine blk_alloc ?_ _)); refine blk_put (cs := #[.int .i64 t432, .int .i64 t433, .bool t434, .int .i64 t435, .int .i64 t436, .int .i64 t437, .int .i64 0, .string (⟨#[]⟩ : ByteArray), .slice none 0 0, .slice none 0 0]) ?_ 6 _ rfl; (with_reducible repeat (first | refine blk_drewN ?_ _ | refine blk_drew ?_ | refine blk_alloc ?_ _)); refine blk_put (cs := #[.int .i64 t432, .int .i64 t433, .bool t434, .int .i64 t435, .int .i64 t436, .int .i64 0, .int .i64 0, .string (⟨#[]⟩ : ByteArray), .slice none 0 0, .slice none 0 0]) ?_ 5 _ rfl; (with_reducible repeat (first | refine blk_drewN ?_ _ | refine blk_drew ?_ | refine blk_alloc ?_ _)); refine blk_put (cs := #[.int .i64 t432, .int .i64 t433, .bool t434, .int .i64 t435, .int .i64 0, .int .i64 0, .int .i64 0, .string (⟨#[]⟩ : ByteArray), .slice none 0 0, .slice none 0 0]) ?_ 4 _ rfl; (with_reducible repeat (first | refine blk_drewN ?_ _ | refine blk_drew ?_ | refine blk_alloc ?_ _)); refine blk_put (cs := #[.int .i64 t432, .int .i64 t433, .bool t434, .int .i64 0, .int .i64 0, .int .i64 0, .int .i64 0, .string (⟨#[]⟩ : ByteArray), .slice none 0 0, .slice none 0 0]) ?_ 3 _ rfl; (with_reducible repeat (first | refine blk_drewN ?_ _ | refine blk_drew ?_ | refine blk_alloc ?_ _)); refine blk_put (cs := #[.int .i64 t432, .int .i64 t433, .bool false, .int .i64 0, .int .i64 0, .int .i64 0, .int .i64 0, .string (⟨#[]⟩ : ByteArray), .slice none 0 0, .slice none 0 0]) ?_ 2 _ rfl; (with_reducible repeat (first | refine blk_drewN ?_ _ | refine blk_drew ?_ | refine blk_alloc ?_ _)); refine blk_put (cs := #[.int .i64 t432, .int .i64 0, .bool false, .int .i64 0, .int .i64 0, .int .i64 0, .int .i64 0, .string (⟨#[]⟩ : ByteArray), .slice none 0 0, .slice none 0 0]) ?_ 1 _ rfl; (with_reducible repeat (first | refine blk_drewN ?_ _ | refine blk_drew ?_ | refine blk_alloc ?_ _)); refine blk_put (cs := #[.int .i64 0, .int .i64 0, .bool false, .int .i64 0, .int .i64 0, .int .i64 0, .int .i64 0, .string (⟨#[]⟩ : ByteArray), .slice none 0 0, .slice none 0 0]) ?_ 0 _ rfl; (with_reducible repeat (first | refine blk_drewN ?_ _ | refine blk_drew ?_ | refine blk_alloc ?_ _)); exact BK447.out) hb); have n6_ := Aside0.mk (below_step (by repeat (first | (with_reducible first | exact HB.out | apply below_alloc | apply pw_below_drewN | apply below_drew1 | refine below_set ?_ GE431.out | refine below_set ?_ GE447.out) | exact HB.out)) hb); clear HO426; clear HO429; clear HO442; clear HO445; clear BK431; clear BK447; clear HB; have HO426 := n0_; have HO429 := n1_; have HO442 := n2_; have HO445 := n3_; have BK431 := n4_; have BK447 := n5_; have HB := n6_; clear n0_ n1_ n2_ n3_ n4_ n5_ n6_; (try clear hb); (try clear hb2); (try clear hk); (try clear hi)))
      go_meet
      case rel => exact ⟨_, ((t446 != t430)), (by first | rfl | (simp; done) | (simp [*]; done)), H', ⟨by first | omega | exact Nat.le_refl _⟩, ⟨by (with_reducible repeat (first | apply Kd.R_alloc | apply Kd.R_drewN | apply Kd.R_drew)); exact Kd.R_mono HO426.out (fun _ hk => hk.2)⟩, ⟨by (with_reducible repeat (first | apply Kd.R_alloc | apply Kd.R_drewN | apply Kd.R_drew)); exact Kd.R_mono HO429.out (fun _ hk => hk.2)⟩, ⟨by (with_reducible repeat (first | apply Kd.R_alloc | apply Kd.R_drewN | apply Kd.R_drew)); exact Kd.R_mono HO442.out (fun _ hk => hk.2)⟩, ⟨by (with_reducible repeat (first | apply Kd.R_alloc | apply Kd.R_drewN | apply Kd.R_drew)); exact Kd.R_mono HO445.out (fun _ hk => hk.2)⟩, ⟨by (with_reducible repeat (first | refine blk_drewN ?_ _ | refine blk_drew ?_ | refine blk_alloc ?_ _)); exact BK431.out⟩, ⟨by (with_reducible repeat (first | refine blk_drewN ?_ _ | refine blk_drew ?_ | refine blk_alloc ?_ _)); exact BK447.out⟩, ⟨by repeat (first | (with_reducible first | exact HB.out | apply below_alloc | apply pw_below_drewN | apply below_drew1 | refine below_set ?_ GE431.out | refine below_set ?_ GE447.out) | exact HB.out)⟩⟩
    · replace c17 := Bool.eq_false_iff.mpr c17
      subst c17
      have H1 : (laws_FnExactNewClient.j0 k a0 t430 true t416 t417 t418 t419 t420 t421 t422 t423 t424 t427 t432 t433 t434 t435 t436 t437 t438 t439 t440 t443) = some r := by rw [if_neg (show ¬ (false = true) by decide)] at H; exact H
      clear H
      have H := H1
      clear H1
      have H' := Aside0.mk H
      clear H
      have hnb22 := NB447_431.out
      have hnc22 := NB431_447.out
      have hcz23_0 : w11.cell? ⟨gb447, 0, none⟩ = some (.int .i64 0) := (blk_cell BK447.out 0).trans rfl
      have hcz23_1 : w11.cell? ⟨gb447, 1, none⟩ = some (.int .i64 0) := (blk_cell BK447.out 1).trans rfl
      have hcz23_2 : w11.cell? ⟨gb447, 2, none⟩ = some (.bool false) := (blk_cell BK447.out 2).trans rfl
      have hcz23_3 : w11.cell? ⟨gb447, 3, none⟩ = some (.int .i64 0) := (blk_cell BK447.out 3).trans rfl
      have hcz23_4 : w11.cell? ⟨gb447, 4, none⟩ = some (.int .i64 0) := (blk_cell BK447.out 4).trans rfl
      have hcz23_5 : w11.cell? ⟨gb447, 5, none⟩ = some (.int .i64 0) := (blk_cell BK447.out 5).trans rfl
      have hcz23_6 : w11.cell? ⟨gb447, 6, none⟩ = some (.int .i64 0) := (blk_cell BK447.out 6).trans rfl
      have hcz23_7 : w11.cell? ⟨gb447, 7, none⟩ = some (.string (⟨#[]⟩ : ByteArray)) := (blk_cell BK447.out 7).trans rfl
      have hcz23_8 : w11.cell? ⟨gb447, 8, none⟩ = some (.slice none 0 0) := (blk_cell BK447.out 8).trans rfl
      have hcz23_9 : w11.cell? ⟨gb447, 9, none⟩ = some (.slice none 0 0) := (blk_cell BK447.out 9).trans rfl
      have hfz23_0 := blk_frozen BK447.out 0
      have hfz23_1 := blk_frozen BK447.out 1
      have hfz23_2 := blk_frozen BK447.out 2
      have hfz23_3 := blk_frozen BK447.out 3
      have hfz23_4 := blk_frozen BK447.out 4
      have hfz23_5 := blk_frozen BK447.out 5
      have hfz23_6 := blk_frozen BK447.out 6
      have hfz23_7 := blk_frozen BK447.out 7
      have hfz23_8 := blk_frozen BK447.out 8
      have hfz23_9 := blk_frozen BK447.out 9
      have hcz24_0 : w11.cell? ⟨gb431, 0, none⟩ = some (.int .i64 t416) := (blk_cell BK431.out 0).trans rfl
      have hcz24_1 : w11.cell? ⟨gb431, 1, none⟩ = some (.int .i64 t417) := (blk_cell BK431.out 1).trans rfl
      have hcz24_2 : w11.cell? ⟨gb431, 2, none⟩ = some (.bool t418) := (blk_cell BK431.out 2).trans rfl
      have hcz24_3 : w11.cell? ⟨gb431, 3, none⟩ = some (.int .i64 t419) := (blk_cell BK431.out 3).trans rfl
      have hcz24_4 : w11.cell? ⟨gb431, 4, none⟩ = some (.int .i64 t420) := (blk_cell BK431.out 4).trans rfl
      have hcz24_5 : w11.cell? ⟨gb431, 5, none⟩ = some (.int .i64 t421) := (blk_cell BK431.out 5).trans rfl
      have hcz24_6 : w11.cell? ⟨gb431, 6, none⟩ = some (.int .i64 t422) := (blk_cell BK431.out 6).trans rfl
      have hcz24_7 : w11.cell? ⟨gb431, 7, none⟩ = some (.string t423) := (blk_cell BK431.out 7).trans rfl
      have hcz24_8 : w11.cell? ⟨gb431, 8, none⟩ = some (.slice Ao8 t424.length co8) := (blk_cell BK431.out 8).trans rfl
      have hcz24_9 : w11.cell? ⟨gb431, 9, none⟩ = some (.slice Ao9 t427.length co9) := (blk_cell BK431.out 9).trans rfl
      have hfz24_0 := blk_frozen BK431.out 0
      have hfz24_1 := blk_frozen BK431.out 1
      have hfz24_2 := blk_frozen BK431.out 2
      have hfz24_3 := blk_frozen BK431.out 3
      have hfz24_4 := blk_frozen BK431.out 4
      have hfz24_5 := blk_frozen BK431.out 5
      have hfz24_6 := blk_frozen BK431.out 6
      have hfz24_7 := blk_frozen BK431.out 7
      have hfz24_8 := blk_frozen BK431.out 8
      have hfz24_9 := blk_frozen BK431.out 9
      go_wp2_with (first | ((with_reducible refine gate_callee (f := 28) rfl ?_); refine goesL_ (some 23) rfl rfl Try.func28 (by kernel_rfl) rfl #[.agg #[.int .i64 t432, .int .i64 t433, .bool t434, .int .i64 t435, .int .i64 t436, .int .i64 t437, .int .i64 t438, .string t439, .slice Ao14 t440.length co14, .slice Ao15 t443.length co15], .agg #[.int .i64 t416, .int .i64 t417, .bool t418, .int .i64 t419, .int .i64 t420, .int .i64 t421, .int .i64 t422, .string t423, .slice Ao8 t424.length co8, .slice Ao9 t427.length co9]] rfl (by (try simp only [List.map_toArray, List.map_cons, List.map_nil]); first | done | rfl | (simp only [List.length_drop, List.length_take]; rfl)) ?_; (with_reducible refine (laws_eqClient.calls k t432 t433 t434 t435 t436 t437 t438 t439 _ _ t440 _ _ t443 t416 t417 t418 t419 t420 t421 t422 t423 _ _ t424 _ _ t427 false _ ?side1 ?side2 ?side3 ?side4 ?side5 ?side6 ?side7 ?side8 A16.out).mono ?_); (case side1 => refine (Kd.R_reads' (e := 151) (base := w.heap.size) (ok := fun k_ => (True ∧ some k_ ≠ (.slice Ao8 t424.length co8 : Value).ownBlock)) (n := t440.length) (c := co14) ?_).2.2; exact (by (with_reducible repeat (first | apply Kd.R_alloc | apply Kd.R_drewN | apply Kd.R_drew)); exact (Kd.R_mono (Kd.R_far (p := ⟨gb447, 9, none⟩) (Kd.R_far (p := ⟨gb447, 8, none⟩) (Kd.R_far (p := ⟨gb447, 7, none⟩) (Kd.R_far (p := ⟨gb447, 6, none⟩) (Kd.R_far (p := ⟨gb447, 5, none⟩) (Kd.R_far (p := ⟨gb447, 4, none⟩) (Kd.R_far (p := ⟨gb447, 3, none⟩) (Kd.R_far (p := ⟨gb447, 2, none⟩) (Kd.R_far (p := ⟨gb447, 1, none⟩) (Kd.R_far (p := ⟨gb447, 0, none⟩) (Kd.R_types HO442.out BK447.out (by decide)) (fun _ hk => hk.2) (.int .i64 t432)) (fun _ hk => hk.2) (.int .i64 t433)) (fun _ hk => hk.2) (.bool t434)) (fun _ hk => hk.2) (.int .i64 t435)) (fun _ hk => hk.2) (.int .i64 t436)) (fun _ hk => hk.2) (.int .i64 t437)) (fun _ hk => hk.2) (.int .i64 t438)) (fun _ hk => hk.2) (.string t439)) (fun _ hk => hk.2) (.slice Ao14 t440.length co14)) (fun _ hk => hk.2) (.slice Ao15 t443.length co15)) (fun _ h_ => h_.1)))); (case side2 => exact (Kd.R_reads' HO442.out).2.1); (case side3 => refine (Kd.R_reads' (e := 149) (base := w.heap.size) (ok := fun k_ => (True ∧ some k_ ≠ (.slice Ao9 t427.length co9 : Value).ownBlock)) (n := t443.length) (c := co15) ?_).2.2; exact (by (with_reducible repeat (first | apply Kd.R_alloc | apply Kd.R_drewN | apply Kd.R_drew)); exact (Kd.R_mono (Kd.R_far (p := ⟨gb447, 9, none⟩) (Kd.R_far (p := ⟨gb447, 8, none⟩) (Kd.R_far (p := ⟨gb447, 7, none⟩) (Kd.R_far (p := ⟨gb447, 6, none⟩) (Kd.R_far (p := ⟨gb447, 5, none⟩) (Kd.R_far (p := ⟨gb447, 4, none⟩) (Kd.R_far (p := ⟨gb447, 3, none⟩) (Kd.R_far (p := ⟨gb447, 2, none⟩) (Kd.R_far (p := ⟨gb447, 1, none⟩) (Kd.R_far (p := ⟨gb447, 0, none⟩) (Kd.R_types HO445.out BK447.out (by decide)) (fun _ hk => hk.2) (.int .i64 t432)) (fun _ hk => hk.2) (.int .i64 t433)) (fun _ hk => hk.2) (.bool t434)) (fun _ hk => hk.2) (.int .i64 t435)) (fun _ hk => hk.2) (.int .i64 t436)) (fun _ hk => hk.2) (.int .i64 t437)) (fun _ hk => hk.2) (.int .i64 t438)) (fun _ hk => hk.2) (.string t439)) (fun _ hk => hk.2) (.slice Ao14 t440.length co14)) (fun _ hk => hk.2) (.slice Ao15 t443.length co15)) (fun _ h_ => h_.1)))); (case side4 => exact (Kd.R_reads' HO445.out).2.1); (case side5 => refine (Kd.R_reads' (e := 151) (base := w.heap.size) (ok := fun k_ => (True ∧ some k_ ≠ (.slice Ao14 t440.length co14 : Value).ownBlock)) (n := t424.length) (c := co8) ?_).2.2; exact (by (with_reducible repeat (first | apply Kd.R_alloc | apply Kd.R_drewN | apply Kd.R_drew)); exact (Kd.R_mono (Kd.R_far (p := ⟨gb447, 9, none⟩) (Kd.R_far (p := ⟨gb447, 8, none⟩) (Kd.R_far (p := ⟨gb447, 7, none⟩) (Kd.R_far (p := ⟨gb447, 6, none⟩) (Kd.R_far (p := ⟨gb447, 5, none⟩) (Kd.R_far (p := ⟨gb447, 4, none⟩) (Kd.R_far (p := ⟨gb447, 3, none⟩) (Kd.R_far (p := ⟨gb447, 2, none⟩) (Kd.R_far (p := ⟨gb447, 1, none⟩) (Kd.R_far (p := ⟨gb447, 0, none⟩) (Kd.R_types HO426.out BK447.out (by decide)) (fun _ hk => hk.2) (.int .i64 t432)) (fun _ hk => hk.2) (.int .i64 t433)) (fun _ hk => hk.2) (.bool t434)) (fun _ hk => hk.2) (.int .i64 t435)) (fun _ hk => hk.2) (.int .i64 t436)) (fun _ hk => hk.2) (.int .i64 t437)) (fun _ hk => hk.2) (.int .i64 t438)) (fun _ hk => hk.2) (.string t439)) (fun _ hk => hk.2) (.slice Ao14 t440.length co14)) (fun _ hk => hk.2) (.slice Ao15 t443.length co15)) (fun _ h_ => h_.1)))); (case side6 => exact (Kd.R_reads' HO426.out).2.1); (case side7 => refine (Kd.R_reads' (e := 149) (base := w.heap.size) (ok := fun k_ => (True ∧ some k_ ≠ (.slice Ao15 t443.length co15 : Value).ownBlock)) (n := t427.length) (c := co9) ?_).2.2; exact (by (with_reducible repeat (first | apply Kd.R_alloc | apply Kd.R_drewN | apply Kd.R_drew)); exact (Kd.R_mono (Kd.R_far (p := ⟨gb447, 9, none⟩) (Kd.R_far (p := ⟨gb447, 8, none⟩) (Kd.R_far (p := ⟨gb447, 7, none⟩) (Kd.R_far (p := ⟨gb447, 6, none⟩) (Kd.R_far (p := ⟨gb447, 5, none⟩) (Kd.R_far (p := ⟨gb447, 4, none⟩) (Kd.R_far (p := ⟨gb447, 3, none⟩) (Kd.R_far (p := ⟨gb447, 2, none⟩) (Kd.R_far (p := ⟨gb447, 1, none⟩) (Kd.R_far (p := ⟨gb447, 0, none⟩) (Kd.R_types HO429.out BK447.out (by decide)) (fun _ hk => hk.2) (.int .i64 t432)) (fun _ hk => hk.2) (.int .i64 t433)) (fun _ hk => hk.2) (.bool t434)) (fun _ hk => hk.2) (.int .i64 t435)) (fun _ hk => hk.2) (.int .i64 t436)) (fun _ hk => hk.2) (.int .i64 t437)) (fun _ hk => hk.2) (.int .i64 t438)) (fun _ hk => hk.2) (.string t439)) (fun _ hk => hk.2) (.slice Ao14 t440.length co14)) (fun _ hk => hk.2) (.slice Ao15 t443.length co15)) (fun _ h_ => h_.1)))); (case side8 => exact (Kd.R_reads' HO429.out).2.1); rintro e w25 ⟨rfl, hb⟩; refine ⟨_, rfl, ?_⟩; have n0_ := Aside0.mk (Kd.R_below (by (with_reducible repeat (first | apply Kd.R_alloc | apply Kd.R_drewN | apply Kd.R_drew)); exact (Kd.R_mono (Kd.R_far (p := ⟨gb447, 9, none⟩) (Kd.R_far (p := ⟨gb447, 8, none⟩) (Kd.R_far (p := ⟨gb447, 7, none⟩) (Kd.R_far (p := ⟨gb447, 6, none⟩) (Kd.R_far (p := ⟨gb447, 5, none⟩) (Kd.R_far (p := ⟨gb447, 4, none⟩) (Kd.R_far (p := ⟨gb447, 3, none⟩) (Kd.R_far (p := ⟨gb447, 2, none⟩) (Kd.R_far (p := ⟨gb447, 1, none⟩) (Kd.R_far (p := ⟨gb447, 0, none⟩) (Kd.R_types HO426.out BK447.out (by decide)) (fun _ hk => hk.2) (.int .i64 t432)) (fun _ hk => hk.2) (.int .i64 t433)) (fun _ hk => hk.2) (.bool t434)) (fun _ hk => hk.2) (.int .i64 t435)) (fun _ hk => hk.2) (.int .i64 t436)) (fun _ hk => hk.2) (.int .i64 t437)) (fun _ hk => hk.2) (.int .i64 t438)) (fun _ hk => hk.2) (.string t439)) (fun _ hk => hk.2) (.slice Ao14 t440.length co14)) (fun _ hk => hk.2) (.slice Ao15 t443.length co15)) (fun _ h_ => h_.1))) hb); have n1_ := Aside0.mk (Kd.R_below (by (with_reducible repeat (first | apply Kd.R_alloc | apply Kd.R_drewN | apply Kd.R_drew)); exact (Kd.R_mono (Kd.R_far (p := ⟨gb447, 9, none⟩) (Kd.R_far (p := ⟨gb447, 8, none⟩) (Kd.R_far (p := ⟨gb447, 7, none⟩) (Kd.R_far (p := ⟨gb447, 6, none⟩) (Kd.R_far (p := ⟨gb447, 5, none⟩) (Kd.R_far (p := ⟨gb447, 4, none⟩) (Kd.R_far (p := ⟨gb447, 3, none⟩) (Kd.R_far (p := ⟨gb447, 2, none⟩) (Kd.R_far (p := ⟨gb447, 1, none⟩) (Kd.R_far (p := ⟨gb447, 0, none⟩) (Kd.R_types HO429.out BK447.out (by decide)) (fun _ hk => hk.2) (.int .i64 t432)) (fun _ hk => hk.2) (.int .i64 t433)) (fun _ hk => hk.2) (.bool t434)) (fun _ hk => hk.2) (.int .i64 t435)) (fun _ hk => hk.2) (.int .i64 t436)) (fun _ hk => hk.2) (.int .i64 t437)) (fun _ hk => hk.2) (.int .i64 t438)) (fun _ hk => hk.2) (.string t439)) (fun _ hk => hk.2) (.slice Ao14 t440.length co14)) (fun _ hk => hk.2) (.slice Ao15 t443.length co15)) (fun _ h_ => h_.1))) hb); have n2_ := Aside0.mk (Kd.R_below (by (with_reducible repeat (first | apply Kd.R_alloc | apply Kd.R_drewN | apply Kd.R_drew)); exact (Kd.R_mono (Kd.R_far (p := ⟨gb447, 9, none⟩) (Kd.R_far (p := ⟨gb447, 8, none⟩) (Kd.R_far (p := ⟨gb447, 7, none⟩) (Kd.R_far (p := ⟨gb447, 6, none⟩) (Kd.R_far (p := ⟨gb447, 5, none⟩) (Kd.R_far (p := ⟨gb447, 4, none⟩) (Kd.R_far (p := ⟨gb447, 3, none⟩) (Kd.R_far (p := ⟨gb447, 2, none⟩) (Kd.R_far (p := ⟨gb447, 1, none⟩) (Kd.R_far (p := ⟨gb447, 0, none⟩) (Kd.R_types HO442.out BK447.out (by decide)) (fun _ hk => hk.2) (.int .i64 t432)) (fun _ hk => hk.2) (.int .i64 t433)) (fun _ hk => hk.2) (.bool t434)) (fun _ hk => hk.2) (.int .i64 t435)) (fun _ hk => hk.2) (.int .i64 t436)) (fun _ hk => hk.2) (.int .i64 t437)) (fun _ hk => hk.2) (.int .i64 t438)) (fun _ hk => hk.2) (.string t439)) (fun _ hk => hk.2) (.slice Ao14 t440.length co14)) (fun _ hk => hk.2) (.slice Ao15 t443.length co15)) (fun _ h_ => h_.1))) hb); have n3_ := Aside0.mk (Kd.R_below (by (with_reducible repeat (first | apply Kd.R_alloc | apply Kd.R_drewN | apply Kd.R_drew)); exact (Kd.R_mono (Kd.R_far (p := ⟨gb447, 9, none⟩) (Kd.R_far (p := ⟨gb447, 8, none⟩) (Kd.R_far (p := ⟨gb447, 7, none⟩) (Kd.R_far (p := ⟨gb447, 6, none⟩) (Kd.R_far (p := ⟨gb447, 5, none⟩) (Kd.R_far (p := ⟨gb447, 4, none⟩) (Kd.R_far (p := ⟨gb447, 3, none⟩) (Kd.R_far (p := ⟨gb447, 2, none⟩) (Kd.R_far (p := ⟨gb447, 1, none⟩) (Kd.R_far (p := ⟨gb447, 0, none⟩) (Kd.R_types HO445.out BK447.out (by decide)) (fun _ hk => hk.2) (.int .i64 t432)) (fun _ hk => hk.2) (.int .i64 t433)) (fun _ hk => hk.2) (.bool t434)) (fun _ hk => hk.2) (.int .i64 t435)) (fun _ hk => hk.2) (.int .i64 t436)) (fun _ hk => hk.2) (.int .i64 t437)) (fun _ hk => hk.2) (.int .i64 t438)) (fun _ hk => hk.2) (.string t439)) (fun _ hk => hk.2) (.slice Ao14 t440.length co14)) (fun _ hk => hk.2) (.slice Ao15 t443.length co15)) (fun _ h_ => h_.1))) hb); have n4_ := Aside0.mk (blk_below (g := gb431) (o := .cells #[.int .i64 t416, .int .i64 t417, .bool t418, .int .i64 t419, .int .i64 t420, .int .i64 t421, .int .i64 t422, .string t423, .slice Ao8 t424.length co8, .slice Ao9 t427.length co9] 40 (0, 0)) (by (with_reducible repeat (first | refine blk_drewN ?_ _ | refine blk_drew ?_ | refine blk_alloc ?_ _)); refine blk_far ?_ NB431_447.out _; (with_reducible repeat (first | refine blk_drewN ?_ _ | refine blk_drew ?_ | refine blk_alloc ?_ _)); refine blk_far ?_ NB431_447.out _; (with_reducible repeat (first | refine blk_drewN ?_ _ | refine blk_drew ?_ | refine blk_alloc ?_ _)); refine blk_far ?_ NB431_447.out _; (with_reducible repeat (first | refine blk_drewN ?_ _ | refine blk_drew ?_ | refine blk_alloc ?_ _)); refine blk_far ?_ NB431_447.out _; (with_reducible repeat (first | refine blk_drewN ?_ _ | refine blk_drew ?_ | refine blk_alloc ?_ _)); refine blk_far ?_ NB431_447.out _; (with_reducible repeat (first | refine blk_drewN ?_ _ | refine blk_drew ?_ | refine blk_alloc ?_ _)); refine blk_far ?_ NB431_447.out _; (with_reducible repeat (first | refine blk_drewN ?_ _ | refine blk_drew ?_ | refine blk_alloc ?_ _)); refine blk_far ?_ NB431_447.out _; (with_reducible repeat (first | refine blk_drewN ?_ _ | refine blk_drew ?_ | refine blk_alloc ?_ _)); refine blk_far ?_ NB431_447.out _; (with_reducible repeat (first | refine blk_drewN ?_ _ | refine blk_drew ?_ | refine blk_alloc ?_ _)); refine blk_far ?_ NB431_447.out _; (with_reducible repeat (first | refine blk_drewN ?_ _ | refine blk_drew ?_ | refine blk_alloc ?_ _)); refine blk_far ?_ NB431_447.out _; (with_reducible repeat (first | refine blk_drewN ?_ _ | refine blk_drew ?_ | refine blk_alloc ?_ _)); exact BK431.out) hb); have n5_ := Aside0.mk (blk_below (g := gb447) (o := .cells #[.int .i64 t432, .int .i64 t433, .bool t434, .int .i64 t435, .int .i64 t436, .int .i64 t437, .int .i64 t438, .string t439, .slice Ao14 t440.length co14, .slice Ao15 t443.length co15] 40 (0, 0)) (by (with_reducible repeat (first | refine blk_drewN ?_ _ | refine blk_drew ?_ | refine blk_alloc ?_ _)); refine blk_put (cs := #[.int .i64 t432, .int .i64 t433, .bool t434, .int .i64 t435, .int .i64 t436, .int .i64 t437, .int .i64 t438, .string t439, .slice Ao14 t440.length co14, .slice none 0 0]) ?_ 9 _ rfl; (with_reducible repeat (first | refine blk_drewN ?_ _ | refine blk_drew ?_ | refine blk_alloc ?_ _)); refine blk_put (cs := #[.int .i64 t432, .int .i64 t433, .bool t434, .int .i64 t435, .int .i64 t436, .int .i64 t437, .int .i64 t438, .string t439, .slice none 0 0, .slice none 0 0]) ?_ 8 _ rfl; (with_reducible repeat (first | refine blk_drewN ?_ _ | refine blk_drew ?_ | refine blk_alloc ?_ _)); refine blk_put (cs := #[.int .i64 t432, .int .i64 t433, .bool t434, .int .i64 t435, .int .i64 t436, .int .i64 t437, .int .i64 t438, .string (⟨#[]⟩ : ByteArray), .slice none 0 0, .slice none 0 0]) ?_ 7 _ rfl; (with_reducible repeat (first | refine blk_drewN ?_ _ | refine blk_drew ?_ | refine blk_alloc ?_ _)); refine blk_put (cs := #[.int .i64 t432, .int .i64 t433, .bool t434, .int .i64 t435, .int .i64 t436, .int .i64 t437, .int .i64 0, .string (⟨#[]⟩ : ByteArray), .slice none 0 0, .slice none 0 0]) ?_ 6 _ rfl; (with_reducible repeat (first | refine blk_drewN ?_ _ | refine blk_drew ?_ | refine blk_alloc ?_ _)); refine blk_put (cs := #[.int .i64 t432, .int .i64 t433, .bool t434, .int .i64 t435, .int .i64 t436, .int .i64 0, .int .i64 0, .string (⟨#[]⟩ : ByteArray), .slice none 0 0, .slice none 0 0]) ?_ 5 _ rfl; (with_reducible repeat (first | refine blk_drewN ?_ _ | refine blk_drew ?_ | refine blk_alloc ?_ _)); refine blk_put (cs := #[.int .i64 t432, .int .i64 t433, .bool t434, .int .i64 t435, .int .i64 0, .int .i64 0, .int .i64 0, .string (⟨#[]⟩ : ByteArray), .slice none 0 0, .slice none 0 0]) ?_ 4 _ rfl; (with_reducible repeat (first | refine blk_drewN ?_ _ | refine blk_drew ?_ | refine blk_alloc ?_ _)); refine blk_put (cs := #[.int .i64 t432, .int .i64 t433, .bool t434, .int .i64 0, .int .i64 0, .int .i64 0, .int .i64 0, .string (⟨#[]⟩ : ByteArray), .slice none 0 0, .slice none 0 0]) ?_ 3 _ rfl; (with_reducible repeat (first | refine blk_drewN ?_ _ | refine blk_drew ?_ | refine blk_alloc ?_ _)); refine blk_put (cs := #[.int .i64 t432, .int .i64 t433, .bool false, .int .i64 0, .int .i64 0, .int .i64 0, .int .i64 0, .string (⟨#[]⟩ : ByteArray), .slice none 0 0, .slice none 0 0]) ?_ 2 _ rfl; (with_reducible repeat (first | refine blk_drewN ?_ _ | refine blk_drew ?_ | refine blk_alloc ?_ _)); refine blk_put (cs := #[.int .i64 t432, .int .i64 0, .bool false, .int .i64 0, .int .i64 0, .int .i64 0, .int .i64 0, .string (⟨#[]⟩ : ByteArray), .slice none 0 0, .slice none 0 0]) ?_ 1 _ rfl; (with_reducible repeat (first | refine blk_drewN ?_ _ | refine blk_drew ?_ | refine blk_alloc ?_ _)); refine blk_put (cs := #[.int .i64 0, .int .i64 0, .bool false, .int .i64 0, .int .i64 0, .int .i64 0, .int .i64 0, .string (⟨#[]⟩ : ByteArray), .slice none 0 0, .slice none 0 0]) ?_ 0 _ rfl; (with_reducible repeat (first | refine blk_drewN ?_ _ | refine blk_drew ?_ | refine blk_alloc ?_ _)); exact BK447.out) hb); have n6_ := Aside0.mk (below_step (by repeat (first | (with_reducible first | exact HB.out | apply below_alloc | apply pw_below_drewN | apply below_drew1 | refine below_set ?_ GE431.out | refine below_set ?_ GE447.out) | exact HB.out)) hb); clear HO426; clear HO429; clear HO442; clear HO445; clear BK431; clear BK447; clear HB; have HO426 := n0_; have HO429 := n1_; have HO442 := n2_; have HO445 := n3_; have BK431 := n4_; have BK447 := n5_; have HB := n6_; clear n0_ n1_ n2_ n3_ n4_ n5_ n6_; (try clear hb); (try clear hb2); (try clear hk); (try clear hi)))
      go_meet
      case rel => exact ⟨_, (true), (by first | rfl | (simp; done) | (simp [*]; done)), H', ⟨by first | omega | exact Nat.le_refl _⟩, ⟨by (with_reducible repeat (first | apply Kd.R_alloc | apply Kd.R_drewN | apply Kd.R_drew)); exact Kd.R_mono HO426.out (fun _ hk => hk.2)⟩, ⟨by (with_reducible repeat (first | apply Kd.R_alloc | apply Kd.R_drewN | apply Kd.R_drew)); exact Kd.R_mono HO429.out (fun _ hk => hk.2)⟩, ⟨by (with_reducible repeat (first | apply Kd.R_alloc | apply Kd.R_drewN | apply Kd.R_drew)); exact Kd.R_mono HO442.out (fun _ hk => hk.2)⟩, ⟨by (with_reducible repeat (first | apply Kd.R_alloc | apply Kd.R_drewN | apply Kd.R_drew)); exact Kd.R_mono HO445.out (fun _ hk => hk.2)⟩, ⟨by (with_reducible repeat (first | refine blk_drewN ?_ _ | refine blk_drew ?_ | refine blk_alloc ?_ _)); exact BK431.out⟩, ⟨by (with_reducible repeat (first | refine blk_drewN ?_ _ | refine blk_drew ?_ | refine blk_alloc ?_ _)); exact BK447.out⟩, ⟨by repeat (first | (with_reducible first | exact HB.out | apply below_alloc | apply pw_below_drewN | apply below_drew1 | refine below_set ?_ GE431.out | refine below_set ?_ GE447.out) | exact HB.out)⟩⟩
  case rest =>
    clear HC4
    try clear c1
    try clear c2
    try clear p2
    try clear c5
    try clear c12
    try clear c17
    try clear c18
    try clear c22
    try clear hcz13_0
    try clear hcz13_1
    try clear hcz13_2
    try clear hcz13_3
    try clear hcz13_4
    try clear hcz13_5
    try clear hcz13_6
    try clear hcz13_7
    try clear hcz13_8
    try clear hcz13_9
    try clear hcz19_0
    try clear hcz19_1
    try clear hcz19_2
    try clear hcz19_3
    try clear hcz19_4
    try clear hcz19_5
    try clear hcz19_6
    try clear hcz19_7
    try clear hcz19_8
    try clear hcz19_9
    try clear hcz20_0
    try clear hcz20_1
    try clear hcz20_2
    try clear hcz20_3
    try clear hcz20_4
    try clear hcz20_5
    try clear hcz20_6
    try clear hcz20_7
    try clear hcz20_8
    try clear hcz20_9
    try clear hcz23_0
    try clear hcz23_1
    try clear hcz23_2
    try clear hcz23_3
    try clear hcz23_4
    try clear hcz23_5
    try clear hcz23_6
    try clear hcz23_7
    try clear hcz23_8
    try clear hcz23_9
    try clear hcz24_0
    try clear hcz24_1
    try clear hcz24_2
    try clear hcz24_3
    try clear hcz24_4
    try clear hcz24_5
    try clear hcz24_6
    try clear hcz24_7
    try clear hcz24_8
    try clear hcz24_9
    try clear hcz7_0
    try clear hcz7_1
    try clear hcz7_2
    try clear hcz7_3
    try clear hcz7_4
    try clear hcz7_5
    try clear hcz7_6
    try clear hcz7_7
    try clear hcz7_8
    try clear hcz7_9
    try clear hfz13_0
    try clear hfz13_1
    try clear hfz13_2
    try clear hfz13_3
    try clear hfz13_4
    try clear hfz13_5
    try clear hfz13_6
    try clear hfz13_7
    try clear hfz13_8
    try clear hfz13_9
    try clear hfz19_0
    try clear hfz19_1
    try clear hfz19_2
    try clear hfz19_3
    try clear hfz19_4
    try clear hfz19_5
    try clear hfz19_6
    try clear hfz19_7
    try clear hfz19_8
    try clear hfz19_9
    try clear hfz20_0
    try clear hfz20_1
    try clear hfz20_2
    try clear hfz20_3
    try clear hfz20_4
    try clear hfz20_5
    try clear hfz20_6
    try clear hfz20_7
    try clear hfz20_8
    try clear hfz20_9
    try clear hfz23_0
    try clear hfz23_1
    try clear hfz23_2
    try clear hfz23_3
    try clear hfz23_4
    try clear hfz23_5
    try clear hfz23_6
    try clear hfz23_7
    try clear hfz23_8
    try clear hfz23_9
    try clear hfz24_0
    try clear hfz24_1
    try clear hfz24_2
    try clear hfz24_3
    try clear hfz24_4
    try clear hfz24_5
    try clear hfz24_6
    try clear hfz24_7
    try clear hfz24_8
    try clear hfz24_9
    try clear hfz7_0
    try clear hfz7_1
    try clear hfz7_2
    try clear hfz7_3
    try clear hfz7_4
    try clear hfz7_5
    try clear hfz7_6
    try clear hfz7_7
    try clear hfz7_8
    try clear hfz7_9
    obtain ⟨kq, x29_3, rfl, HA, HJ3, HO_432008, HO_432009, HO_448008, HO_448009, BK431, BK447, HB⟩ := hcut
    cases kq with
    | zero => exact absurd HA.out (by simp [laws_FnExactNewClient.j0])
    | succ kj3 =>
      have H := HA.out
      clear HA
      simp only [laws_FnExactNewClient.j0] at H
      by_cases c26 : x29_3 = true
      · subst c26
        have H1 : (some false) = some r := by rw [if_pos rfl] at H; exact H
        clear H
        have H := H1
        clear H1
        obtain rfl := Option.some.inj H
        go_wp2
        go_ret
        exact ⟨by first | rfl | (simp [errW_none, errW_some] <;> rfl) | (simp [*, errW_none, errW_some] <;> rfl) | (simp [mp_beq_nil, mp_bne_nil]; done) | (simp [*, mp_beq_nil, mp_bne_nil]; done), by repeat (first | (with_reducible first | exact HB.out | apply below_alloc | apply pw_below_drewN | apply below_drew1 | refine below_set ?_ GE431.out | refine below_set ?_ GE447.out) | exact HB.out)⟩
      · replace c26 := Bool.eq_false_iff.mpr c26
        subst c26
        have H1 : ((laws_markClient.f kj3 t432 t433 t434 t435 t436 t437 t438 t439 t440 t443 1).bind fun bt449 => ((laws_heldClient.f kj3 t432 t433 t434 t435 t436 t437 t438 t439 bt449.2.1 bt449.2.2 1).bind fun t452 => (if t452 < 0 then (some false) else (if t452 = bt449.1 then ((impl_NewClient.f a0).bind fun bt453 => ((laws_eqClient.f kj3 bt453.1 bt453.2.1 bt453.2.2.1 bt453.2.2.2.1 bt453.2.2.2.2.1 bt453.2.2.2.2.2.1 bt453.2.2.2.2.2.2.1 bt453.2.2.2.2.2.2.2.1 bt453.2.2.2.2.2.2.2.2.1 bt453.2.2.2.2.2.2.2.2.2.1 t416 t417 t418 t419 t420 t421 t422 t423 t424 t427).bind fun t469 => (if t469 = true then (laws_FnExactNewClient.j1 kj3 bt449.1 (bt453.2.2.2.2.2.2.2.2.2.2 != t430) t432 t433 t434 t435 t436 t437 t438 t439 bt449.2.1 bt449.2.2) else (laws_FnExactNewClient.j1 kj3 bt449.1 true t432 t433 t434 t435 t436 t437 t438 t439 bt449.2.1 bt449.2.2)))) else (some false))))) = some r := by rw [if_neg (show ¬ (false = true) by decide)] at H; exact H
        clear H
        have H := H1
        clear H1
        replace H := Option.bind_eq_some_iff.mp H
        obtain ⟨⟨t449, t450, t451⟩, A270, H⟩ := H
        replace H : ((laws_heldClient.f kj3 t432 t433 t434 t435 t436 t437 t438 t439 t450 t451 1).bind fun t452 => (if t452 < 0 then (some false) else (if t452 = t449 then ((impl_NewClient.f a0).bind fun bt453 => ((laws_eqClient.f kj3 bt453.1 bt453.2.1 bt453.2.2.1 bt453.2.2.2.1 bt453.2.2.2.2.1 bt453.2.2.2.2.2.1 bt453.2.2.2.2.2.2.1 bt453.2.2.2.2.2.2.2.1 bt453.2.2.2.2.2.2.2.2.1 bt453.2.2.2.2.2.2.2.2.2.1 t416 t417 t418 t419 t420 t421 t422 t423 t424 t427).bind fun t469 => (if t469 = true then (laws_FnExactNewClient.j1 kj3 t449 (bt453.2.2.2.2.2.2.2.2.2.2 != t430) t432 t433 t434 t435 t436 t437 t438 t439 t450 t451) else (laws_FnExactNewClient.j1 kj3 t449 true t432 t433 t434 t435 t436 t437 t438 t439 t450 t451)))) else (some false)))) = some r := H
        have A27 := Aside0.mk A270
        clear A270
        replace H := Option.bind_eq_some_iff.mp H
        obtain ⟨t452, A280, H⟩ := H
        replace H : (if t452 < 0 then (some false) else (if t452 = t449 then ((impl_NewClient.f a0).bind fun bt453 => ((laws_eqClient.f kj3 bt453.1 bt453.2.1 bt453.2.2.1 bt453.2.2.2.1 bt453.2.2.2.2.1 bt453.2.2.2.2.2.1 bt453.2.2.2.2.2.2.1 bt453.2.2.2.2.2.2.2.1 bt453.2.2.2.2.2.2.2.2.1 bt453.2.2.2.2.2.2.2.2.2.1 t416 t417 t418 t419 t420 t421 t422 t423 t424 t427).bind fun t469 => (if t469 = true then (laws_FnExactNewClient.j1 kj3 t449 (bt453.2.2.2.2.2.2.2.2.2.2 != t430) t432 t433 t434 t435 t436 t437 t438 t439 t450 t451) else (laws_FnExactNewClient.j1 kj3 t449 true t432 t433 t434 t435 t436 t437 t438 t439 t450 t451)))) else (some false))) = some r := H
        have A28 := Aside0.mk A280
        clear A280
        by_cases c29 : t452 < 0
        · rw [if_pos c29] at H
          have c29b0 : decide (t452 < 0) = true := decide_eq_true c29
          clear c29
          obtain rfl := Option.some.inj H
          have hnb30 := NB447_431.out
          have hnc30 := NB431_447.out
          have hcz31_0 : wc.cell? ⟨gb447, 0, none⟩ = some (.int .i64 t432) := (blk_cell BK447.out 0).trans rfl
          have hcz31_1 : wc.cell? ⟨gb447, 1, none⟩ = some (.int .i64 t433) := (blk_cell BK447.out 1).trans rfl
          have hcz31_2 : wc.cell? ⟨gb447, 2, none⟩ = some (.bool t434) := (blk_cell BK447.out 2).trans rfl
          have hcz31_3 : wc.cell? ⟨gb447, 3, none⟩ = some (.int .i64 t435) := (blk_cell BK447.out 3).trans rfl
          have hcz31_4 : wc.cell? ⟨gb447, 4, none⟩ = some (.int .i64 t436) := (blk_cell BK447.out 4).trans rfl
          have hcz31_5 : wc.cell? ⟨gb447, 5, none⟩ = some (.int .i64 t437) := (blk_cell BK447.out 5).trans rfl
          have hcz31_6 : wc.cell? ⟨gb447, 6, none⟩ = some (.int .i64 t438) := (blk_cell BK447.out 6).trans rfl
          have hcz31_7 : wc.cell? ⟨gb447, 7, none⟩ = some (.string t439) := (blk_cell BK447.out 7).trans rfl
          have hcz31_8 : wc.cell? ⟨gb447, 8, none⟩ = some (.slice Ao14 t440.length co14) := (blk_cell BK447.out 8).trans rfl
          have hcz31_9 : wc.cell? ⟨gb447, 9, none⟩ = some (.slice Ao15 t443.length co15) := (blk_cell BK447.out 9).trans rfl
          have hfz31_0 := blk_frozen BK447.out 0
          have hfz31_1 := blk_frozen BK447.out 1
          have hfz31_2 := blk_frozen BK447.out 2
          have hfz31_3 := blk_frozen BK447.out 3
          have hfz31_4 := blk_frozen BK447.out 4
          have hfz31_5 := blk_frozen BK447.out 5
          have hfz31_6 := blk_frozen BK447.out 6
          have hfz31_7 := blk_frozen BK447.out 7
          have hfz31_8 := blk_frozen BK447.out 8
          have hfz31_9 := blk_frozen BK447.out 9
          go_wp2_with (first | ((with_reducible refine gate_callee (f := 29) rfl ?_); refine goesL_ (some 32) rfl rfl Try.func29 (by kernel_rfl) rfl #[.agg #[.int .i64 t432, .int .i64 t433, .bool t434, .int .i64 t435, .int .i64 t436, .int .i64 t437, .int .i64 t438, .string t439, .slice Ao14 t440.length co14, .slice Ao15 t443.length co15], .int .i64 1] rfl (by (try simp only [List.map_toArray, List.map_cons, List.map_nil]); first | done | rfl | (simp only [List.length_drop, List.length_take]; rfl)) ?_; (with_reducible refine (laws_markClient.calls kj3 t432 t433 t434 t435 t436 t437 t438 t439 (fun k_ => some k_ = (.slice Ao14 t440.length co14 : Value).ownBlock) (.slice Ao14 t440.length co14) t440 (fun k_ => some k_ = (.slice Ao15 t443.length co15 : Value).ownBlock) (.slice Ao15 t443.length co15) t443 1 t449 t450 t451 w _ ?side1 ?side2 ?side3 A27.out).mono ?_); (case side1 => repeat (first | (with_reducible first | exact HB.out | apply below_alloc | apply pw_below_drewN | apply below_drew1 | refine below_set ?_ GE431.out | refine below_set ?_ GE447.out) | exact HB.out)); (case side2 => exact Kd.R_tight rfl HO_448008.out); (case side3 => exact Kd.R_tight rfl HO_448009.out); rintro e w32 ⟨rfl, hy0, hy1, hb, hkp⟩; refine ⟨_, rfl, ?_⟩; have n0_ := Aside0.mk (Kd.R_mono (ok' := fun k_ => some k_ ≠ (.slice Ao14 t440.length co14 : Value).ownBlock) (Kd.R_keptB ((Kd.R_apart' HO_432008.out (Kd.R_typed HO_448009.out) (by decide))) hkp (fun k_ hk_ hs_ => Or.elim hs_ (fun e_ => (hk_.1) e_) (fun e_ => (hk_.2) e_))) (fun k_ hk_ => hk_.1.1)); have n1_ := Aside0.mk (Kd.R_mono (ok' := fun k_ => some k_ ≠ (.slice Ao15 t443.length co15 : Value).ownBlock) (Kd.R_keptB ((Kd.R_apart' HO_432009.out (Kd.R_typed HO_448008.out) (by decide))) hkp (fun k_ hk_ hs_ => Or.elim hs_ (fun e_ => (hk_.2) e_) (fun e_ => (hk_.1) e_))) (fun k_ hk_ => hk_.1.1)); have n2_ := Aside0.mk (Kd.R_reok rfl hy0 (fun k_ e_ => HO_448008.out.1 k_ e_)); have n3_ := Aside0.mk (Kd.R_reok rfl hy1 (fun k_ e_ => HO_448009.out.1 k_ e_)); have n4_ := Aside0.mk (blk_kept (by (with_reducible repeat (first | refine blk_drewN ?_ _ | refine blk_drew ?_ | refine blk_alloc ?_ _)); exact BK431.out) hkp (fun hs_ => Or.elim hs_ (fun e_ => (fun e_ => (Kd.R_ne HO_448008.out BK431.out (by decide)) e_) e_) (fun e_ => (fun e_ => (Kd.R_ne HO_448009.out BK431.out (by decide)) e_) e_))); have n5_ := Aside0.mk (blk_kept (by (with_reducible repeat (first | refine blk_drewN ?_ _ | refine blk_drew ?_ | refine blk_alloc ?_ _)); exact BK447.out) hkp (fun hs_ => Or.elim hs_ (fun e_ => (fun e_ => (Kd.R_ne HO_448008.out BK447.out (by decide)) e_) e_) (fun e_ => (fun e_ => (Kd.R_ne HO_448009.out BK447.out (by decide)) e_) e_))); have n6_ := Aside0.mk (hb); clear HO_432008; clear HO_432009; clear HO_448008; clear HO_448009; clear BK431; clear BK447; clear HB; have HO_432008 := n0_; have HO_432009 := n1_; have HO_448008 := n2_; have HO_448009 := n3_; have BK431 := n4_; have BK447 := n5_; have HB := n6_; clear n0_ n1_ n2_ n3_ n4_ n5_ n6_; (try clear hb); (try clear hkp); (try clear hy0); (try clear hy1); have hcz33_0 : w32.cell? ⟨gb447, 0, none⟩ = some (.int .i64 t432) := (blk_cell BK447.out 0).trans rfl; have hcz33_1 : w32.cell? ⟨gb447, 1, none⟩ = some (.int .i64 t433) := (blk_cell BK447.out 1).trans rfl; have hcz33_2 : w32.cell? ⟨gb447, 2, none⟩ = some (.bool t434) := (blk_cell BK447.out 2).trans rfl; have hcz33_3 : w32.cell? ⟨gb447, 3, none⟩ = some (.int .i64 t435) := (blk_cell BK447.out 3).trans rfl; have hcz33_4 : w32.cell? ⟨gb447, 4, none⟩ = some (.int .i64 t436) := (blk_cell BK447.out 4).trans rfl; have hcz33_5 : w32.cell? ⟨gb447, 5, none⟩ = some (.int .i64 t437) := (blk_cell BK447.out 5).trans rfl; have hcz33_6 : w32.cell? ⟨gb447, 6, none⟩ = some (.int .i64 t438) := (blk_cell BK447.out 6).trans rfl; have hcz33_7 : w32.cell? ⟨gb447, 7, none⟩ = some (.string t439) := (blk_cell BK447.out 7).trans rfl; have hcz33_8 : w32.cell? ⟨gb447, 8, none⟩ = some (.slice Ao14 t440.length co14) := (blk_cell BK447.out 8).trans rfl; have hcz33_9 : w32.cell? ⟨gb447, 9, none⟩ = some (.slice Ao15 t443.length co15) := (blk_cell BK447.out 9).trans rfl; have hfz33_0 := blk_frozen BK447.out 0; have hfz33_1 := blk_frozen BK447.out 1; have hfz33_2 := blk_frozen BK447.out 2; have hfz33_3 := blk_frozen BK447.out 3; have hfz33_4 := blk_frozen BK447.out 4; have hfz33_5 := blk_frozen BK447.out 5; have hfz33_6 := blk_frozen BK447.out 6; have hfz33_7 := blk_frozen BK447.out 7; have hfz33_8 := blk_frozen BK447.out 8; have hfz33_9 := blk_frozen BK447.out 9) | ((with_reducible refine gate_callee (f := 30) rfl ?_); refine goesL_ (some 35) rfl rfl Try.func30 (by kernel_rfl) rfl #[.agg #[.int .i64 t432, .int .i64 t433, .bool t434, .int .i64 t435, .int .i64 t436, .int .i64 t437, .int .i64 t438, .string t439, .slice Ao14 t450.length co14, .slice Ao15 t451.length co15], .int .i64 1] rfl (by (try simp only [List.map_toArray, List.map_cons, List.map_nil]); first | done | (rw [show t450.length = t440.length from (Kd.R_reads' HO_448008.out).1.symm, show t451.length = t443.length from (Kd.R_reads' HO_448009.out).1.symm] <;> rfl) | rfl | (simp only [List.length_drop, List.length_take]; rfl)) ?_; (with_reducible refine (laws_heldClient.calls kj3 t432 t433 t434 t435 t436 t437 t438 t439 _ _ t450 _ _ t451 1 t452 _ ?side1 ?side2 ?side3 ?side4 A28.out).mono ?_); (case side1 => repeat (first | exact (Kd.R_reads' HO_448008.out).2.2 | (with_reducible refine Kd.C_alloc ?_ _) | (with_reducible refine Kd.C_drewN ?_ _) | (with_reducible refine Kd.C_drew ?_))); (case side2 => rw [show t450.length = t440.length from (Kd.R_reads' HO_448008.out).1.symm]; exact (Kd.R_reads' HO_448008.out).2.1); (case side3 => repeat (first | exact (Kd.R_reads' HO_448009.out).2.2 | (with_reducible refine Kd.C_alloc ?_ _) | (with_reducible refine Kd.C_drewN ?_ _) | (with_reducible refine Kd.C_drew ?_))); (case side4 => rw [show t451.length = t443.length from (Kd.R_reads' HO_448009.out).1.symm]; exact (Kd.R_reads' HO_448009.out).2.1); rintro e w34 ⟨rfl, hb⟩; refine ⟨_, rfl, ?_⟩; have n0_ := Aside0.mk (Kd.R_below (by (with_reducible repeat (first | apply Kd.R_alloc | apply Kd.R_drewN | apply Kd.R_drew)); exact HO_432008.out) hb); have n1_ := Aside0.mk (Kd.R_below (by (with_reducible repeat (first | apply Kd.R_alloc | apply Kd.R_drewN | apply Kd.R_drew)); exact HO_432009.out) hb); have n2_ := Aside0.mk (Kd.R_below (by (with_reducible repeat (first | apply Kd.R_alloc | apply Kd.R_drewN | apply Kd.R_drew)); exact HO_448008.out) hb); have n3_ := Aside0.mk (Kd.R_below (by (with_reducible repeat (first | apply Kd.R_alloc | apply Kd.R_drewN | apply Kd.R_drew)); exact HO_448009.out) hb); have n4_ := Aside0.mk (blk_below (g := gb431) (o := .cells #[.int .i64 t416, .int .i64 t417, .bool t418, .int .i64 t419, .int .i64 t420, .int .i64 t421, .int .i64 t422, .string t423, .slice Ao8 t424.length co8, .slice Ao9 t427.length co9] 40 (0, 0)) (by (with_reducible repeat (first | refine blk_drewN ?_ _ | refine blk_drew ?_ | refine blk_alloc ?_ _)); exact BK431.out) hb); have n5_ := Aside0.mk (blk_below (g := gb447) (o := .cells #[.int .i64 t432, .int .i64 t433, .bool t434, .int .i64 t435, .int .i64 t436, .int .i64 t437, .int .i64 t438, .string t439, .slice Ao14 t440.length co14, .slice Ao15 t443.length co15] 40 (0, 0)) (by (with_reducible repeat (first | refine blk_drewN ?_ _ | refine blk_drew ?_ | refine blk_alloc ?_ _)); exact BK447.out) hb); have n6_ := Aside0.mk (below_step (by repeat (first | (with_reducible first | exact HB.out | apply below_alloc | apply pw_below_drewN | apply below_drew1 | refine below_set ?_ GE431.out | refine below_set ?_ GE447.out) | exact HB.out)) hb); clear HO_432008; clear HO_432009; clear HO_448008; clear HO_448009; clear BK431; clear BK447; clear HB; have HO_432008 := n0_; have HO_432009 := n1_; have HO_448008 := n2_; have HO_448009 := n3_; have BK431 := n4_; have BK447 := n5_; have HB := n6_; clear n0_ n1_ n2_ n3_ n4_ n5_ n6_; (try clear hb); (try clear hb2); (try clear hk); (try clear hi)))
          go_ret
          exact ⟨by first | rfl | (simp [errW_none, errW_some] <;> rfl) | (simp [*, errW_none, errW_some] <;> rfl) | (simp [mp_beq_nil, mp_bne_nil]; done) | (simp [*, mp_beq_nil, mp_bne_nil]; done), by repeat (first | (with_reducible first | exact HB.out | apply below_alloc | apply pw_below_drewN | apply below_drew1 | refine below_set ?_ GE431.out | refine below_set ?_ GE447.out) | exact HB.out)⟩
        · rw [if_neg c29] at H
          have c29b0 : decide (t452 < 0) = false := decide_eq_false c29
          clear c29
          by_cases c35 : t452 = t449
          · rw [if_pos c35] at H
            have c35b0 : (t452 == t449) = true := beq_iff_eq.mpr c35
            have c35b1 : (t452 != t449) = false := bne_eq_false_iff_eq.mpr c35
            clear c35
            replace H := Option.bind_eq_some_iff.mp H
            obtain ⟨⟨t453, t454, t455, t456, t457, t458, t459, t460, t461, t464, t467⟩, A360, H⟩ := H
            replace H : ((laws_eqClient.f kj3 t453 t454 t455 t456 t457 t458 t459 t460 t461 t464 t416 t417 t418 t419 t420 t421 t422 t423 t424 t427).bind fun t469 => (if t469 = true then (laws_FnExactNewClient.j1 kj3 t449 (t467 != t430) t432 t433 t434 t435 t436 t437 t438 t439 t450 t451) else (laws_FnExactNewClient.j1 kj3 t449 true t432 t433 t434 t435 t436 t437 t438 t439 t450 t451))) = some r := H
            have A36 := Aside0.mk A360
            clear A360
            have HC37 := Aside0.mk H
            clear H
            have hnb38 := NB447_431.out
            have hnc38 := NB431_447.out
            have hcz39_0 : wc.cell? ⟨gb447, 0, none⟩ = some (.int .i64 t432) := (blk_cell BK447.out 0).trans rfl
            have hcz39_1 : wc.cell? ⟨gb447, 1, none⟩ = some (.int .i64 t433) := (blk_cell BK447.out 1).trans rfl
            have hcz39_2 : wc.cell? ⟨gb447, 2, none⟩ = some (.bool t434) := (blk_cell BK447.out 2).trans rfl
            have hcz39_3 : wc.cell? ⟨gb447, 3, none⟩ = some (.int .i64 t435) := (blk_cell BK447.out 3).trans rfl
            have hcz39_4 : wc.cell? ⟨gb447, 4, none⟩ = some (.int .i64 t436) := (blk_cell BK447.out 4).trans rfl
            have hcz39_5 : wc.cell? ⟨gb447, 5, none⟩ = some (.int .i64 t437) := (blk_cell BK447.out 5).trans rfl
            have hcz39_6 : wc.cell? ⟨gb447, 6, none⟩ = some (.int .i64 t438) := (blk_cell BK447.out 6).trans rfl
            have hcz39_7 : wc.cell? ⟨gb447, 7, none⟩ = some (.string t439) := (blk_cell BK447.out 7).trans rfl
            have hcz39_8 : wc.cell? ⟨gb447, 8, none⟩ = some (.slice Ao14 t440.length co14) := (blk_cell BK447.out 8).trans rfl
            have hcz39_9 : wc.cell? ⟨gb447, 9, none⟩ = some (.slice Ao15 t443.length co15) := (blk_cell BK447.out 9).trans rfl
            have hfz39_0 := blk_frozen BK447.out 0
            have hfz39_1 := blk_frozen BK447.out 1
            have hfz39_2 := blk_frozen BK447.out 2
            have hfz39_3 := blk_frozen BK447.out 3
            have hfz39_4 := blk_frozen BK447.out 4
            have hfz39_5 := blk_frozen BK447.out 5
            have hfz39_6 := blk_frozen BK447.out 6
            have hfz39_7 := blk_frozen BK447.out 7
            have hfz39_8 := blk_frozen BK447.out 8
            have hfz39_9 := blk_frozen BK447.out 9
            go_upto_region 14 with (first | ((with_reducible refine gate_callee (f := 29) rfl ?_); refine goesL_ (some 32) rfl rfl Try.func29 (by kernel_rfl) rfl #[.agg #[.int .i64 t432, .int .i64 t433, .bool t434, .int .i64 t435, .int .i64 t436, .int .i64 t437, .int .i64 t438, .string t439, .slice Ao14 t440.length co14, .slice Ao15 t443.length co15], .int .i64 1] rfl (by (try simp only [List.map_toArray, List.map_cons, List.map_nil]); first | done | rfl | (simp only [List.length_drop, List.length_take]; rfl)) ?_; (with_reducible refine (laws_markClient.calls kj3 t432 t433 t434 t435 t436 t437 t438 t439 (fun k_ => some k_ = (.slice Ao14 t440.length co14 : Value).ownBlock) (.slice Ao14 t440.length co14) t440 (fun k_ => some k_ = (.slice Ao15 t443.length co15 : Value).ownBlock) (.slice Ao15 t443.length co15) t443 1 t449 t450 t451 w _ ?side1 ?side2 ?side3 A27.out).mono ?_); (case side1 => repeat (first | (with_reducible first | exact HB.out | apply below_alloc | apply pw_below_drewN | apply below_drew1 | refine below_set ?_ GE431.out | refine below_set ?_ GE447.out) | exact HB.out)); (case side2 => exact Kd.R_tight rfl HO_448008.out); (case side3 => exact Kd.R_tight rfl HO_448009.out); rintro e w40 ⟨rfl, hy0, hy1, hb, hkp⟩; refine ⟨_, rfl, ?_⟩; have n0_ := Aside0.mk (Kd.R_mono (ok' := fun k_ => some k_ ≠ (.slice Ao14 t440.length co14 : Value).ownBlock) (Kd.R_keptB ((Kd.R_apart' HO_432008.out (Kd.R_typed HO_448009.out) (by decide))) hkp (fun k_ hk_ hs_ => Or.elim hs_ (fun e_ => (hk_.1) e_) (fun e_ => (hk_.2) e_))) (fun k_ hk_ => hk_.1.1)); have n1_ := Aside0.mk (Kd.R_mono (ok' := fun k_ => some k_ ≠ (.slice Ao15 t443.length co15 : Value).ownBlock) (Kd.R_keptB ((Kd.R_apart' HO_432009.out (Kd.R_typed HO_448008.out) (by decide))) hkp (fun k_ hk_ hs_ => Or.elim hs_ (fun e_ => (hk_.2) e_) (fun e_ => (hk_.1) e_))) (fun k_ hk_ => hk_.1.1)); have n2_ := Aside0.mk (Kd.R_reok rfl hy0 (fun k_ e_ => HO_448008.out.1 k_ e_)); have n3_ := Aside0.mk (Kd.R_reok rfl hy1 (fun k_ e_ => HO_448009.out.1 k_ e_)); have n4_ := Aside0.mk (blk_kept (by (with_reducible repeat (first | refine blk_drewN ?_ _ | refine blk_drew ?_ | refine blk_alloc ?_ _)); exact BK431.out) hkp (fun hs_ => Or.elim hs_ (fun e_ => (fun e_ => (Kd.R_ne HO_448008.out BK431.out (by decide)) e_) e_) (fun e_ => (fun e_ => (Kd.R_ne HO_448009.out BK431.out (by decide)) e_) e_))); have n5_ := Aside0.mk (blk_kept (by (with_reducible repeat (first | refine blk_drewN ?_ _ | refine blk_drew ?_ | refine blk_alloc ?_ _)); exact BK447.out) hkp (fun hs_ => Or.elim hs_ (fun e_ => (fun e_ => (Kd.R_ne HO_448008.out BK447.out (by decide)) e_) e_) (fun e_ => (fun e_ => (Kd.R_ne HO_448009.out BK447.out (by decide)) e_) e_))); have n6_ := Aside0.mk (hb); clear HO_432008; clear HO_432009; clear HO_448008; clear HO_448009; clear BK431; clear BK447; clear HB; have HO_432008 := n0_; have HO_432009 := n1_; have HO_448008 := n2_; have HO_448009 := n3_; have BK431 := n4_; have BK447 := n5_; have HB := n6_; clear n0_ n1_ n2_ n3_ n4_ n5_ n6_; (try clear hb); (try clear hkp); (try clear hy0); (try clear hy1); have hcz41_0 : w40.cell? ⟨gb447, 0, none⟩ = some (.int .i64 t432) := (blk_cell BK447.out 0).trans rfl; have hcz41_1 : w40.cell? ⟨gb447, 1, none⟩ = some (.int .i64 t433) := (blk_cell BK447.out 1).trans rfl; have hcz41_2 : w40.cell? ⟨gb447, 2, none⟩ = some (.bool t434) := (blk_cell BK447.out 2).trans rfl; have hcz41_3 : w40.cell? ⟨gb447, 3, none⟩ = some (.int .i64 t435) := (blk_cell BK447.out 3).trans rfl; have hcz41_4 : w40.cell? ⟨gb447, 4, none⟩ = some (.int .i64 t436) := (blk_cell BK447.out 4).trans rfl; have hcz41_5 : w40.cell? ⟨gb447, 5, none⟩ = some (.int .i64 t437) := (blk_cell BK447.out 5).trans rfl; have hcz41_6 : w40.cell? ⟨gb447, 6, none⟩ = some (.int .i64 t438) := (blk_cell BK447.out 6).trans rfl; have hcz41_7 : w40.cell? ⟨gb447, 7, none⟩ = some (.string t439) := (blk_cell BK447.out 7).trans rfl; have hcz41_8 : w40.cell? ⟨gb447, 8, none⟩ = some (.slice Ao14 t440.length co14) := (blk_cell BK447.out 8).trans rfl; have hcz41_9 : w40.cell? ⟨gb447, 9, none⟩ = some (.slice Ao15 t443.length co15) := (blk_cell BK447.out 9).trans rfl; have hfz41_0 := blk_frozen BK447.out 0; have hfz41_1 := blk_frozen BK447.out 1; have hfz41_2 := blk_frozen BK447.out 2; have hfz41_3 := blk_frozen BK447.out 3; have hfz41_4 := blk_frozen BK447.out 4; have hfz41_5 := blk_frozen BK447.out 5; have hfz41_6 := blk_frozen BK447.out 6; have hfz41_7 := blk_frozen BK447.out 7; have hfz41_8 := blk_frozen BK447.out 8; have hfz41_9 := blk_frozen BK447.out 9) | ((with_reducible refine gate_callee (f := 30) rfl ?_); refine goesL_ (some 35) rfl rfl Try.func30 (by kernel_rfl) rfl #[.agg #[.int .i64 t432, .int .i64 t433, .bool t434, .int .i64 t435, .int .i64 t436, .int .i64 t437, .int .i64 t438, .string t439, .slice Ao14 t450.length co14, .slice Ao15 t451.length co15], .int .i64 1] rfl (by (try simp only [List.map_toArray, List.map_cons, List.map_nil]); first | done | (rw [show t450.length = t440.length from (Kd.R_reads' HO_448008.out).1.symm, show t451.length = t443.length from (Kd.R_reads' HO_448009.out).1.symm] <;> rfl) | rfl | (simp only [List.length_drop, List.length_take]; rfl)) ?_; (with_reducible refine (laws_heldClient.calls kj3 t432 t433 t434 t435 t436 t437 t438 t439 _ _ t450 _ _ t451 1 t452 _ ?side1 ?side2 ?side3 ?side4 A28.out).mono ?_); (case side1 => repeat (first | exact (Kd.R_reads' HO_448008.out).2.2 | (with_reducible refine Kd.C_alloc ?_ _) | (with_reducible refine Kd.C_drewN ?_ _) | (with_reducible refine Kd.C_drew ?_))); (case side2 => rw [show t450.length = t440.length from (Kd.R_reads' HO_448008.out).1.symm]; exact (Kd.R_reads' HO_448008.out).2.1); (case side3 => repeat (first | exact (Kd.R_reads' HO_448009.out).2.2 | (with_reducible refine Kd.C_alloc ?_ _) | (with_reducible refine Kd.C_drewN ?_ _) | (with_reducible refine Kd.C_drew ?_))); (case side4 => rw [show t451.length = t443.length from (Kd.R_reads' HO_448009.out).1.symm]; exact (Kd.R_reads' HO_448009.out).2.1); rintro e w42 ⟨rfl, hb⟩; refine ⟨_, rfl, ?_⟩; have n0_ := Aside0.mk (Kd.R_below (by (with_reducible repeat (first | apply Kd.R_alloc | apply Kd.R_drewN | apply Kd.R_drew)); exact HO_432008.out) hb); have n1_ := Aside0.mk (Kd.R_below (by (with_reducible repeat (first | apply Kd.R_alloc | apply Kd.R_drewN | apply Kd.R_drew)); exact HO_432009.out) hb); have n2_ := Aside0.mk (Kd.R_below (by (with_reducible repeat (first | apply Kd.R_alloc | apply Kd.R_drewN | apply Kd.R_drew)); exact HO_448008.out) hb); have n3_ := Aside0.mk (Kd.R_below (by (with_reducible repeat (first | apply Kd.R_alloc | apply Kd.R_drewN | apply Kd.R_drew)); exact HO_448009.out) hb); have n4_ := Aside0.mk (blk_below (g := gb431) (o := .cells #[.int .i64 t416, .int .i64 t417, .bool t418, .int .i64 t419, .int .i64 t420, .int .i64 t421, .int .i64 t422, .string t423, .slice Ao8 t424.length co8, .slice Ao9 t427.length co9] 40 (0, 0)) (by (with_reducible repeat (first | refine blk_drewN ?_ _ | refine blk_drew ?_ | refine blk_alloc ?_ _)); exact BK431.out) hb); have n5_ := Aside0.mk (blk_below (g := gb447) (o := .cells #[.int .i64 t432, .int .i64 t433, .bool t434, .int .i64 t435, .int .i64 t436, .int .i64 t437, .int .i64 t438, .string t439, .slice Ao14 t440.length co14, .slice Ao15 t443.length co15] 40 (0, 0)) (by (with_reducible repeat (first | refine blk_drewN ?_ _ | refine blk_drew ?_ | refine blk_alloc ?_ _)); exact BK447.out) hb); have n6_ := Aside0.mk (below_step (by repeat (first | (with_reducible first | exact HB.out | apply below_alloc | apply pw_below_drewN | apply below_drew1 | refine below_set ?_ GE431.out | refine below_set ?_ GE447.out) | exact HB.out)) hb); clear HO_432008; clear HO_432009; clear HO_448008; clear HO_448009; clear BK431; clear BK447; clear HB; have HO_432008 := n0_; have HO_432009 := n1_; have HO_448008 := n2_; have HO_448009 := n3_; have BK431 := n4_; have BK447 := n5_; have HB := n6_; clear n0_ n1_ n2_ n3_ n4_ n5_ n6_; (try clear hb); (try clear hb2); (try clear hk); (try clear hi)) | ((with_reducible refine gate_callee (f := 27) rfl ?_); refine goesL_ (some 43) rfl rfl Try.func27 (by kernel_rfl) rfl #[.int .i64 a0] rfl (by (try simp only [List.map_toArray, List.map_cons, List.map_nil]); first | done | rfl | (simp only [List.length_drop, List.length_take]; rfl)) ?_; (with_reducible refine (impl_NewClient.calls a0 t453 t454 t455 t456 t457 t458 t459 t460 t461 t464 t467 _ A36.out).mono ?_); rintro e w43 ⟨v462, v465, rfl, ho0, ho1, hb⟩; refine ⟨_, rfl, ?_⟩; have n0_ := Aside0.mk (Kd.R_elder' (by (with_reducible repeat (first | apply Kd.R_alloc | apply Kd.R_drewN | apply Kd.R_drew)); exact HO_432008.out) (Kd.R_base ho0) hb); have n1_ := Aside0.mk (Kd.R_elder' (by (with_reducible repeat (first | apply Kd.R_alloc | apply Kd.R_drewN | apply Kd.R_drew)); exact HO_432009.out) (Kd.R_base ho1) hb); have n2_ := Aside0.mk (Kd.R_elder' (by (with_reducible repeat (first | apply Kd.R_alloc | apply Kd.R_drewN | apply Kd.R_drew)); exact HO_448008.out) (Kd.R_base ho0) hb); have n3_ := Aside0.mk (Kd.R_elder' (by (with_reducible repeat (first | apply Kd.R_alloc | apply Kd.R_drewN | apply Kd.R_drew)); exact HO_448009.out) (Kd.R_base ho1) hb); have n4_ := Aside0.mk (Kd.R_lower (Kd.R_new' (Kd.R_new' ho0 (Kd.R_lt (by (with_reducible repeat (first | apply Kd.R_alloc | apply Kd.R_drewN | apply Kd.R_drew)); exact HO_432008.out))) (Kd.R_lt (by (with_reducible repeat (first | apply Kd.R_alloc | apply Kd.R_drewN | apply Kd.R_drew)); exact HO_448008.out))) (below_size (by repeat (first | (with_reducible first | exact HB.out | apply below_alloc | apply pw_below_drewN | apply below_drew1 | refine below_set ?_ GE431.out | refine below_set ?_ GE447.out) | exact HB.out)))); have n5_ := Aside0.mk (Kd.R_lower (Kd.R_new' (Kd.R_new' ho1 (Kd.R_lt (by (with_reducible repeat (first | apply Kd.R_alloc | apply Kd.R_drewN | apply Kd.R_drew)); exact HO_432009.out))) (Kd.R_lt (by (with_reducible repeat (first | apply Kd.R_alloc | apply Kd.R_drewN | apply Kd.R_drew)); exact HO_448009.out))) (below_size (by repeat (first | (with_reducible first | exact HB.out | apply below_alloc | apply pw_below_drewN | apply below_drew1 | refine below_set ?_ GE431.out | refine below_set ?_ GE447.out) | exact HB.out)))); have n6_ := Aside0.mk (blk_below (g := gb431) (o := .cells #[.int .i64 t416, .int .i64 t417, .bool t418, .int .i64 t419, .int .i64 t420, .int .i64 t421, .int .i64 t422, .string t423, .slice Ao8 t424.length co8, .slice Ao9 t427.length co9] 40 (0, 0)) (by (with_reducible repeat (first | refine blk_drewN ?_ _ | refine blk_drew ?_ | refine blk_alloc ?_ _)); exact BK431.out) hb); have n7_ := Aside0.mk (blk_below (g := gb447) (o := .cells #[.int .i64 t432, .int .i64 t433, .bool t434, .int .i64 t435, .int .i64 t436, .int .i64 t437, .int .i64 t438, .string t439, .slice Ao14 t440.length co14, .slice Ao15 t443.length co15] 40 (0, 0)) (by (with_reducible repeat (first | refine blk_drewN ?_ _ | refine blk_drew ?_ | refine blk_alloc ?_ _)); exact BK447.out) hb); have n8_ := Aside0.mk (below_step (by repeat (first | (with_reducible first | exact HB.out | apply below_alloc | apply pw_below_drewN | apply below_drew1 | refine below_set ?_ GE431.out | refine below_set ?_ GE447.out) | exact HB.out)) hb); clear HO_432008; clear HO_432009; clear HO_448008; clear HO_448009; clear BK431; clear BK447; clear HB; have HO_432008 := n0_; have HO_432009 := n1_; have HO_448008 := n2_; have HO_448009 := n3_; have HO463 := n4_; have HO466 := n5_; have BK431 := n6_; have BK447 := n7_; have HB := n8_; clear n0_ n1_ n2_ n3_ n4_ n5_ n6_ n7_ n8_; (try clear hb); (try clear hb2); (try clear hk); (try clear hi); (try clear ho0); (try clear ho1)) | ((with_reducible refine gate_dst (N := 9) rfl ?_); refine box_event ?hg (N := 9) ?hd (cs := #[.int .i64 0, .int .i64 0, .bool false, .int .i64 0, .int .i64 0, .int .i64 0, .int .i64 0, .string (⟨#[]⟩ : ByteArray), .slice none 0 0, .slice none 0 0]) (t := 40) ?hr ?_; (case hd => rfl); (case hg => rfl); (case hr => first | (go_simp; done) | (go_simp; rfl)); intro gb468 hg w44 hbox hb; have n0_ := Aside0.mk (Kd.R_below (by (with_reducible repeat (first | apply Kd.R_alloc | apply Kd.R_drewN | apply Kd.R_drew)); exact HO_432008.out) hb); have n1_ := Aside0.mk (Kd.R_below (by (with_reducible repeat (first | apply Kd.R_alloc | apply Kd.R_drewN | apply Kd.R_drew)); exact HO_432009.out) hb); have n2_ := Aside0.mk (Kd.R_below (by (with_reducible repeat (first | apply Kd.R_alloc | apply Kd.R_drewN | apply Kd.R_drew)); exact HO_448008.out) hb); have n3_ := Aside0.mk (Kd.R_below (by (with_reducible repeat (first | apply Kd.R_alloc | apply Kd.R_drewN | apply Kd.R_drew)); exact HO_448009.out) hb); have n4_ := Aside0.mk (Kd.R_below (by (with_reducible repeat (first | apply Kd.R_alloc | apply Kd.R_drewN | apply Kd.R_drew)); exact HO463.out) hb); have n5_ := Aside0.mk (Kd.R_below (by (with_reducible repeat (first | apply Kd.R_alloc | apply Kd.R_drewN | apply Kd.R_drew)); exact HO466.out) hb); have n6_ := Aside0.mk (blk_below (g := gb431) (o := .cells #[.int .i64 t416, .int .i64 t417, .bool t418, .int .i64 t419, .int .i64 t420, .int .i64 t421, .int .i64 t422, .string t423, .slice Ao8 t424.length co8, .slice Ao9 t427.length co9] 40 (0, 0)) (by (with_reducible repeat (first | refine blk_drewN ?_ _ | refine blk_drew ?_ | refine blk_alloc ?_ _)); exact BK431.out) hb); have n7_ := Aside0.mk (blk_below (g := gb447) (o := .cells #[.int .i64 t432, .int .i64 t433, .bool t434, .int .i64 t435, .int .i64 t436, .int .i64 t437, .int .i64 t438, .string t439, .slice Ao14 t440.length co14, .slice Ao15 t443.length co15] 40 (0, 0)) (by (with_reducible repeat (first | refine blk_drewN ?_ _ | refine blk_drew ?_ | refine blk_alloc ?_ _)); exact BK447.out) hb); have n8_ := Aside0.mk (below_step (by repeat (first | (with_reducible first | exact HB.out | apply below_alloc | apply pw_below_drewN | apply below_drew1 | refine below_set ?_ GE431.out | refine below_set ?_ GE447.out) | exact HB.out)) hb); have n9_ := Aside0.mk (hbox); have n10_ := Aside0.mk ((by rw [hg]; exact (below_size (by repeat (first | (with_reducible first | exact HB.out | apply below_alloc | apply pw_below_drewN | apply below_drew1 | refine below_set ?_ GE431.out | refine below_set ?_ GE447.out) | exact HB.out))) : w.heap.size ≤ gb468)); have n11_ := Aside0.mk ((by rw [hg]; exact (below_size (by repeat (first | (with_reducible first | exact HB.out | apply below_alloc | apply pw_below_drewN | apply below_drew1 | refine below_set ?_ GE431.out | refine below_set ?_ GE447.out) | exact HB.out))) : w.heap.size ≤ gb468)); have n12_ := Aside0.mk ((by rw [hg]; exact Nat.ne_of_lt (blk_lt (g := gb431) (o := .cells #[.int .i64 t416, .int .i64 t417, .bool t418, .int .i64 t419, .int .i64 t420, .int .i64 t421, .int .i64 t422, .string t423, .slice Ao8 t424.length co8, .slice Ao9 t427.length co9] 40 (0, 0)) (by (with_reducible repeat (first | refine blk_drewN ?_ _ | refine blk_drew ?_ | refine blk_alloc ?_ _)); exact BK431.out)) : gb431 ≠ gb468)); have n13_ := Aside0.mk ((by rw [hg]; exact Nat.ne_of_gt (blk_lt (g := gb431) (o := .cells #[.int .i64 t416, .int .i64 t417, .bool t418, .int .i64 t419, .int .i64 t420, .int .i64 t421, .int .i64 t422, .string t423, .slice Ao8 t424.length co8, .slice Ao9 t427.length co9] 40 (0, 0)) (by (with_reducible repeat (first | refine blk_drewN ?_ _ | refine blk_drew ?_ | refine blk_alloc ?_ _)); exact BK431.out)) : gb468 ≠ gb431)); have n14_ := Aside0.mk ((by rw [hg]; exact Nat.ne_of_lt (blk_lt (g := gb447) (o := .cells #[.int .i64 t432, .int .i64 t433, .bool t434, .int .i64 t435, .int .i64 t436, .int .i64 t437, .int .i64 t438, .string t439, .slice Ao14 t440.length co14, .slice Ao15 t443.length co15] 40 (0, 0)) (by (with_reducible repeat (first | refine blk_drewN ?_ _ | refine blk_drew ?_ | refine blk_alloc ?_ _)); exact BK447.out)) : gb447 ≠ gb468)); have n15_ := Aside0.mk ((by rw [hg]; exact Nat.ne_of_gt (blk_lt (g := gb447) (o := .cells #[.int .i64 t432, .int .i64 t433, .bool t434, .int .i64 t435, .int .i64 t436, .int .i64 t437, .int .i64 t438, .string t439, .slice Ao14 t440.length co14, .slice Ao15 t443.length co15] 40 (0, 0)) (by (with_reducible repeat (first | refine blk_drewN ?_ _ | refine blk_drew ?_ | refine blk_alloc ?_ _)); exact BK447.out)) : gb468 ≠ gb447)); clear HO_432008; clear HO_432009; clear HO_448008; clear HO_448009; clear HO463; clear HO466; clear BK431; clear BK447; clear HB; have HO_432008 := n0_; have HO_432009 := n1_; have HO_448008 := n2_; have HO_448009 := n3_; have HO463 := n4_; have HO466 := n5_; have BK431 := n6_; have BK447 := n7_; have HB := n8_; have BK468 := n9_; have GW468 := n10_; have GE468 := n11_; have NB431_468 := n12_; have NB468_431 := n13_; have NB447_468 := n14_; have NB468_447 := n15_; clear n0_ n1_ n2_ n3_ n4_ n5_ n6_ n7_ n8_ n9_ n10_ n11_ n12_ n13_ n14_ n15_; clear hb hbox hg; have hnb45 := NB468_431.out; have hnc45 := NB431_468.out; have hnb46 := NB468_447.out; have hnc46 := NB447_468.out; have hcz47_0 : w44.cell? ⟨gb468, 0, none⟩ = some (.int .i64 0) := (blk_cell BK468.out 0).trans rfl; have hcz47_1 : w44.cell? ⟨gb468, 1, none⟩ = some (.int .i64 0) := (blk_cell BK468.out 1).trans rfl; have hcz47_2 : w44.cell? ⟨gb468, 2, none⟩ = some (.bool false) := (blk_cell BK468.out 2).trans rfl; have hcz47_3 : w44.cell? ⟨gb468, 3, none⟩ = some (.int .i64 0) := (blk_cell BK468.out 3).trans rfl; have hcz47_4 : w44.cell? ⟨gb468, 4, none⟩ = some (.int .i64 0) := (blk_cell BK468.out 4).trans rfl; have hcz47_5 : w44.cell? ⟨gb468, 5, none⟩ = some (.int .i64 0) := (blk_cell BK468.out 5).trans rfl; have hcz47_6 : w44.cell? ⟨gb468, 6, none⟩ = some (.int .i64 0) := (blk_cell BK468.out 6).trans rfl; have hcz47_7 : w44.cell? ⟨gb468, 7, none⟩ = some (.string (⟨#[]⟩ : ByteArray)) := (blk_cell BK468.out 7).trans rfl; have hcz47_8 : w44.cell? ⟨gb468, 8, none⟩ = some (.slice none 0 0) := (blk_cell BK468.out 8).trans rfl; have hcz47_9 : w44.cell? ⟨gb468, 9, none⟩ = some (.slice none 0 0) := (blk_cell BK468.out 9).trans rfl; have hfz47_0 := blk_frozen BK468.out 0; have hfz47_1 := blk_frozen BK468.out 1; have hfz47_2 := blk_frozen BK468.out 2; have hfz47_3 := blk_frozen BK468.out 3; have hfz47_4 := blk_frozen BK468.out 4; have hfz47_5 := blk_frozen BK468.out 5; have hfz47_6 := blk_frozen BK468.out 6; have hfz47_7 := blk_frozen BK468.out 7; have hfz47_8 := blk_frozen BK468.out 8; have hfz47_9 := blk_frozen BK468.out 9; obtain ⟨Ao48, co48, eo48⟩ := Kd.R_slice HO463.out; subst eo48; obtain ⟨Ao49, co49, eo49⟩ := Kd.R_slice HO466.out; subst eo49))
            (try simp only [Act.put, List.setIfInBounds_toArray, List.set_cons_zero, List.set_cons_succ])
            go_cut [54] (fun v54 wc => ∃ (kq : Nat) (x54_36 : Bool), v54 = .bool x54_36 ∧ Aside0 (laws_FnExactNewClient.j1 kq t449 x54_36 t432 t433 t434 t435 t436 t437 t438 t439 t450 t451 = some r) ∧ Aside0 (kq ≤ kj3) ∧ Aside0 (Kd.R k151 151 wc w.heap.size (fun k_ => some k_ ≠ ((.slice Ao14 t440.length co14) : Value).ownBlock ∧ some k_ ≠ ((.slice Ao48 t461.length co48) : Value).ownBlock) (.slice Ao8 t424.length co8) t424) ∧ Aside0 (Kd.R k149 149 wc w.heap.size (fun k_ => some k_ ≠ ((.slice Ao15 t443.length co15) : Value).ownBlock ∧ some k_ ≠ ((.slice Ao49 t464.length co49) : Value).ownBlock) (.slice Ao9 t427.length co9) t427) ∧ Aside0 (Kd.R k151 151 wc w.heap.size (fun k_ => some k_ ≠ ((.slice Ao8 t424.length co8) : Value).ownBlock ∧ some k_ ≠ ((.slice Ao48 t461.length co48) : Value).ownBlock) (.slice Ao14 t440.length co14) t450) ∧ Aside0 (Kd.R k149 149 wc w.heap.size (fun k_ => some k_ ≠ ((.slice Ao9 t427.length co9) : Value).ownBlock ∧ some k_ ≠ ((.slice Ao49 t464.length co49) : Value).ownBlock) (.slice Ao15 t443.length co15) t451) ∧ Aside0 (Kd.R k151 151 wc w.heap.size (fun k_ => some k_ ≠ ((.slice Ao8 t424.length co8) : Value).ownBlock ∧ some k_ ≠ ((.slice Ao14 t440.length co14) : Value).ownBlock) (.slice Ao48 t461.length co48) t461) ∧ Aside0 (Kd.R k149 149 wc w.heap.size (fun k_ => some k_ ≠ ((.slice Ao9 t427.length co9) : Value).ownBlock ∧ some k_ ≠ ((.slice Ao15 t443.length co15) : Value).ownBlock) (.slice Ao49 t464.length co49) t464) ∧ Aside0 (wc.heap[gb431]? = some (.cells #[.int .i64 t416, .int .i64 t417, .bool t418, .int .i64 t419, .int .i64 t420, .int .i64 t421, .int .i64 t422, .string t423, (.slice Ao8 t424.length co8), (.slice Ao9 t427.length co9)] 40 (0, 0))) ∧ Aside0 (wc.heap[gb447]? = some (.cells #[.int .i64 t432, .int .i64 t433, .bool t434, .int .i64 t435, .int .i64 t436, .int .i64 t437, .int .i64 t438, .string t439, (.slice Ao14 t440.length co14), (.slice Ao15 t443.length co15)] 40 (0, 0))) ∧ Aside0 (wc.heap[gb468]? = some (.cells #[.int .i64 t453, .int .i64 t454, .bool t455, .int .i64 t456, .int .i64 t457, .int .i64 t458, .int .i64 t459, .string t460, (.slice Ao48 t461.length co48), (.slice Ao49 t464.length co49)] 40 (0, 0))) ∧ Aside0 (Below w.heap.size w wc))
            case first =>
              have H := HC37.out
              clear HC37
              replace H := Option.bind_eq_some_iff.mp H
              obtain ⟨t469, A500, H⟩ := H
              replace H : (if t469 = true then (laws_FnExactNewClient.j1 kj3 t449 (t467 != t430) t432 t433 t434 t435 t436 t437 t438 t439 t450 t451) else (laws_FnExactNewClient.j1 kj3 t449 true t432 t433 t434 t435 t436 t437 t438 t439 t450 t451)) = some r := H
              have A50 := Aside0.mk A500
              clear A500
              by_cases c51 : t469 = true
              · subst c51
                have H1 : (laws_FnExactNewClient.j1 kj3 t449 (t467 != t430) t432 t433 t434 t435 t436 t437 t438 t439 t450 t451) = some r := by rw [if_pos rfl] at H; exact H
                clear H
                have H := H1
                clear H1
                have H' := Aside0.mk H
                clear H
                have hnb52 := NB468_431.out
                have hnc52 := NB431_468.out
                have hnb53 := NB468_447.out
                have hnc53 := NB447_468.out
                have hcz54_0 : w44.cell? ⟨gb468, 0, none⟩ = some (.int .i64 0) := (blk_cell BK468.out 0).trans rfl
                have hcz54_1 : w44.cell? ⟨gb468, 1, none⟩ = some (.int .i64 0) := (blk_cell BK468.out 1).trans rfl
                have hcz54_2 : w44.cell? ⟨gb468, 2, none⟩ = some (.bool false) := (blk_cell BK468.out 2).trans rfl
                have hcz54_3 : w44.cell? ⟨gb468, 3, none⟩ = some (.int .i64 0) := (blk_cell BK468.out 3).trans rfl
                have hcz54_4 : w44.cell? ⟨gb468, 4, none⟩ = some (.int .i64 0) := (blk_cell BK468.out 4).trans rfl
                have hcz54_5 : w44.cell? ⟨gb468, 5, none⟩ = some (.int .i64 0) := (blk_cell BK468.out 5).trans rfl
                have hcz54_6 : w44.cell? ⟨gb468, 6, none⟩ = some (.int .i64 0) := (blk_cell BK468.out 6).trans rfl
                have hcz54_7 : w44.cell? ⟨gb468, 7, none⟩ = some (.string (⟨#[]⟩ : ByteArray)) := (blk_cell BK468.out 7).trans rfl
                have hcz54_8 : w44.cell? ⟨gb468, 8, none⟩ = some (.slice none 0 0) := (blk_cell BK468.out 8).trans rfl
                have hcz54_9 : w44.cell? ⟨gb468, 9, none⟩ = some (.slice none 0 0) := (blk_cell BK468.out 9).trans rfl
                have hfz54_0 := blk_frozen BK468.out 0
                have hfz54_1 := blk_frozen BK468.out 1
                have hfz54_2 := blk_frozen BK468.out 2
                have hfz54_3 := blk_frozen BK468.out 3
                have hfz54_4 := blk_frozen BK468.out 4
                have hfz54_5 := blk_frozen BK468.out 5
                have hfz54_6 := blk_frozen BK468.out 6
                have hfz54_7 := blk_frozen BK468.out 7
                have hfz54_8 := blk_frozen BK468.out 8
                have hfz54_9 := blk_frozen BK468.out 9
                have hnb55 := NB431_447.out
                have hnc55 := NB447_431.out
                have hcz56_0 : w44.cell? ⟨gb431, 0, none⟩ = some (.int .i64 t416) := (blk_cell BK431.out 0).trans rfl
                have hcz56_1 : w44.cell? ⟨gb431, 1, none⟩ = some (.int .i64 t417) := (blk_cell BK431.out 1).trans rfl
                have hcz56_2 : w44.cell? ⟨gb431, 2, none⟩ = some (.bool t418) := (blk_cell BK431.out 2).trans rfl
                have hcz56_3 : w44.cell? ⟨gb431, 3, none⟩ = some (.int .i64 t419) := (blk_cell BK431.out 3).trans rfl
                have hcz56_4 : w44.cell? ⟨gb431, 4, none⟩ = some (.int .i64 t420) := (blk_cell BK431.out 4).trans rfl
                have hcz56_5 : w44.cell? ⟨gb431, 5, none⟩ = some (.int .i64 t421) := (blk_cell BK431.out 5).trans rfl
                have hcz56_6 : w44.cell? ⟨gb431, 6, none⟩ = some (.int .i64 t422) := (blk_cell BK431.out 6).trans rfl
                have hcz56_7 : w44.cell? ⟨gb431, 7, none⟩ = some (.string t423) := (blk_cell BK431.out 7).trans rfl
                have hcz56_8 : w44.cell? ⟨gb431, 8, none⟩ = some (.slice Ao8 t424.length co8) := (blk_cell BK431.out 8).trans rfl
                have hcz56_9 : w44.cell? ⟨gb431, 9, none⟩ = some (.slice Ao9 t427.length co9) := (blk_cell BK431.out 9).trans rfl
                have hfz56_0 := blk_frozen BK431.out 0
                have hfz56_1 := blk_frozen BK431.out 1
                have hfz56_2 := blk_frozen BK431.out 2
                have hfz56_3 := blk_frozen BK431.out 3
                have hfz56_4 := blk_frozen BK431.out 4
                have hfz56_5 := blk_frozen BK431.out 5
                have hfz56_6 := blk_frozen BK431.out 6
                have hfz56_7 := blk_frozen BK431.out 7
                have hfz56_8 := blk_frozen BK431.out 8
                have hfz56_9 := blk_frozen BK431.out 9
                go_wp2_with (first | ((with_reducible refine gate_callee (f := 28) rfl ?_); refine goesL_ (some 48) rfl rfl Try.func28 (by kernel_rfl) rfl #[.agg #[.int .i64 t453, .int .i64 t454, .bool t455, .int .i64 t456, .int .i64 t457, .int .i64 t458, .int .i64 t459, .string t460, .slice Ao48 t461.length co48, .slice Ao49 t464.length co49], .agg #[.int .i64 t416, .int .i64 t417, .bool t418, .int .i64 t419, .int .i64 t420, .int .i64 t421, .int .i64 t422, .string t423, .slice Ao8 t424.length co8, .slice Ao9 t427.length co9]] rfl (by (try simp only [List.map_toArray, List.map_cons, List.map_nil]); first | done | rfl | (simp only [List.length_drop, List.length_take]; rfl)) ?_; (with_reducible refine (laws_eqClient.calls kj3 t453 t454 t455 t456 t457 t458 t459 t460 _ _ t461 _ _ t464 t416 t417 t418 t419 t420 t421 t422 t423 _ _ t424 _ _ t427 true _ ?side1 ?side2 ?side3 ?side4 ?side5 ?side6 ?side7 ?side8 A50.out).mono ?_); (case side1 => refine (Kd.R_reads' (e := 151) (base := w.heap.size) (ok := fun k_ => ((True ∧ some k_ ≠ (.slice Ao8 t424.length co8 : Value).ownBlock) ∧ some k_ ≠ (.slice Ao14 t440.length co14 : Value).ownBlock)) (n := t461.length) (c := co48) ?_).2.2; exact (by (with_reducible repeat (first | apply Kd.R_alloc | apply Kd.R_drewN | apply Kd.R_drew)); exact (Kd.R_mono (Kd.R_far (p := ⟨gb468, 9, none⟩) (Kd.R_far (p := ⟨gb468, 8, none⟩) (Kd.R_far (p := ⟨gb468, 7, none⟩) (Kd.R_far (p := ⟨gb468, 6, none⟩) (Kd.R_far (p := ⟨gb468, 5, none⟩) (Kd.R_far (p := ⟨gb468, 4, none⟩) (Kd.R_far (p := ⟨gb468, 3, none⟩) (Kd.R_far (p := ⟨gb468, 2, none⟩) (Kd.R_far (p := ⟨gb468, 1, none⟩) (Kd.R_far (p := ⟨gb468, 0, none⟩) (Kd.R_types HO463.out BK468.out (by decide)) (fun _ hk => hk.2) (.int .i64 t453)) (fun _ hk => hk.2) (.int .i64 t454)) (fun _ hk => hk.2) (.bool t455)) (fun _ hk => hk.2) (.int .i64 t456)) (fun _ hk => hk.2) (.int .i64 t457)) (fun _ hk => hk.2) (.int .i64 t458)) (fun _ hk => hk.2) (.int .i64 t459)) (fun _ hk => hk.2) (.string t460)) (fun _ hk => hk.2) (.slice Ao48 t461.length co48)) (fun _ hk => hk.2) (.slice Ao49 t464.length co49)) (fun _ h_ => h_.1)))); (case side2 => exact (Kd.R_reads' HO463.out).2.1); (case side3 => refine (Kd.R_reads' (e := 149) (base := w.heap.size) (ok := fun k_ => ((True ∧ some k_ ≠ (.slice Ao9 t427.length co9 : Value).ownBlock) ∧ some k_ ≠ (.slice Ao15 t443.length co15 : Value).ownBlock)) (n := t464.length) (c := co49) ?_).2.2; exact (by (with_reducible repeat (first | apply Kd.R_alloc | apply Kd.R_drewN | apply Kd.R_drew)); exact (Kd.R_mono (Kd.R_far (p := ⟨gb468, 9, none⟩) (Kd.R_far (p := ⟨gb468, 8, none⟩) (Kd.R_far (p := ⟨gb468, 7, none⟩) (Kd.R_far (p := ⟨gb468, 6, none⟩) (Kd.R_far (p := ⟨gb468, 5, none⟩) (Kd.R_far (p := ⟨gb468, 4, none⟩) (Kd.R_far (p := ⟨gb468, 3, none⟩) (Kd.R_far (p := ⟨gb468, 2, none⟩) (Kd.R_far (p := ⟨gb468, 1, none⟩) (Kd.R_far (p := ⟨gb468, 0, none⟩) (Kd.R_types HO466.out BK468.out (by decide)) (fun _ hk => hk.2) (.int .i64 t453)) (fun _ hk => hk.2) (.int .i64 t454)) (fun _ hk => hk.2) (.bool t455)) (fun _ hk => hk.2) (.int .i64 t456)) (fun _ hk => hk.2) (.int .i64 t457)) (fun _ hk => hk.2) (.int .i64 t458)) (fun _ hk => hk.2) (.int .i64 t459)) (fun _ hk => hk.2) (.string t460)) (fun _ hk => hk.2) (.slice Ao48 t461.length co48)) (fun _ hk => hk.2) (.slice Ao49 t464.length co49)) (fun _ h_ => h_.1)))); (case side4 => exact (Kd.R_reads' HO466.out).2.1); (case side5 => refine (Kd.R_reads' (e := 151) (base := w.heap.size) (ok := fun k_ => (some k_ ≠ (.slice Ao14 t440.length co14 : Value).ownBlock ∧ some k_ ≠ (.slice Ao48 t461.length co48 : Value).ownBlock)) (n := t424.length) (c := co8) ?_).2.2; exact (by (with_reducible repeat (first | apply Kd.R_alloc | apply Kd.R_drewN | apply Kd.R_drew)); exact (Kd.R_mono (Kd.R_far (p := ⟨gb468, 9, none⟩) (Kd.R_far (p := ⟨gb468, 8, none⟩) (Kd.R_far (p := ⟨gb468, 7, none⟩) (Kd.R_far (p := ⟨gb468, 6, none⟩) (Kd.R_far (p := ⟨gb468, 5, none⟩) (Kd.R_far (p := ⟨gb468, 4, none⟩) (Kd.R_far (p := ⟨gb468, 3, none⟩) (Kd.R_far (p := ⟨gb468, 2, none⟩) (Kd.R_far (p := ⟨gb468, 1, none⟩) (Kd.R_far (p := ⟨gb468, 0, none⟩) (Kd.R_types HO_432008.out BK468.out (by decide)) (fun _ hk => hk.2) (.int .i64 t453)) (fun _ hk => hk.2) (.int .i64 t454)) (fun _ hk => hk.2) (.bool t455)) (fun _ hk => hk.2) (.int .i64 t456)) (fun _ hk => hk.2) (.int .i64 t457)) (fun _ hk => hk.2) (.int .i64 t458)) (fun _ hk => hk.2) (.int .i64 t459)) (fun _ hk => hk.2) (.string t460)) (fun _ hk => hk.2) (.slice Ao48 t461.length co48)) (fun _ hk => hk.2) (.slice Ao49 t464.length co49)) (fun _ h_ => h_.1)))); (case side6 => exact (Kd.R_reads' HO_432008.out).2.1); (case side7 => refine (Kd.R_reads' (e := 149) (base := w.heap.size) (ok := fun k_ => (some k_ ≠ (.slice Ao15 t443.length co15 : Value).ownBlock ∧ some k_ ≠ (.slice Ao49 t464.length co49 : Value).ownBlock)) (n := t427.length) (c := co9) ?_).2.2; exact (by (with_reducible repeat (first | apply Kd.R_alloc | apply Kd.R_drewN | apply Kd.R_drew)); exact (Kd.R_mono (Kd.R_far (p := ⟨gb468, 9, none⟩) (Kd.R_far (p := ⟨gb468, 8, none⟩) (Kd.R_far (p := ⟨gb468, 7, none⟩) (Kd.R_far (p := ⟨gb468, 6, none⟩) (Kd.R_far (p := ⟨gb468, 5, none⟩) (Kd.R_far (p := ⟨gb468, 4, none⟩) (Kd.R_far (p := ⟨gb468, 3, none⟩) (Kd.R_far (p := ⟨gb468, 2, none⟩) (Kd.R_far (p := ⟨gb468, 1, none⟩) (Kd.R_far (p := ⟨gb468, 0, none⟩) (Kd.R_types HO_432009.out BK468.out (by decide)) (fun _ hk => hk.2) (.int .i64 t453)) (fun _ hk => hk.2) (.int .i64 t454)) (fun _ hk => hk.2) (.bool t455)) (fun _ hk => hk.2) (.int .i64 t456)) (fun _ hk => hk.2) (.int .i64 t457)) (fun _ hk => hk.2) (.int .i64 t458)) (fun _ hk => hk.2) (.int .i64 t459)) (fun _ hk => hk.2) (.string t460)) (fun _ hk => hk.2) (.slice Ao48 t461.length co48)) (fun _ hk => hk.2) (.slice Ao49 t464.length co49)) (fun _ h_ => h_.1)))); (case side8 => exact (Kd.R_reads' HO_432009.out).2.1); rintro e w57 ⟨rfl, hb⟩; refine ⟨_, rfl, ?_⟩; have n0_ := Aside0.mk (Kd.R_below (by (with_reducible repeat (first | apply Kd.R_alloc | apply Kd.R_drewN | apply Kd.R_drew)); exact (Kd.R_mono (Kd.R_far (p := ⟨gb468, 9, none⟩) (Kd.R_far (p := ⟨gb468, 8, none⟩) (Kd.R_far (p := ⟨gb468, 7, none⟩) (Kd.R_far (p := ⟨gb468, 6, none⟩) (Kd.R_far (p := ⟨gb468, 5, none⟩) (Kd.R_far (p := ⟨gb468, 4, none⟩) (Kd.R_far (p := ⟨gb468, 3, none⟩) (Kd.R_far (p := ⟨gb468, 2, none⟩) (Kd.R_far (p := ⟨gb468, 1, none⟩) (Kd.R_far (p := ⟨gb468, 0, none⟩) (Kd.R_types HO_432008.out BK468.out (by decide)) (fun _ hk => hk.2) (.int .i64 t453)) (fun _ hk => hk.2) (.int .i64 t454)) (fun _ hk => hk.2) (.bool t455)) (fun _ hk => hk.2) (.int .i64 t456)) (fun _ hk => hk.2) (.int .i64 t457)) (fun _ hk => hk.2) (.int .i64 t458)) (fun _ hk => hk.2) (.int .i64 t459)) (fun _ hk => hk.2) (.string t460)) (fun _ hk => hk.2) (.slice Ao48 t461.length co48)) (fun _ hk => hk.2) (.slice Ao49 t464.length co49)) (fun _ h_ => h_.1))) hb); have n1_ := Aside0.mk (Kd.R_below (by (with_reducible repeat (first | apply Kd.R_alloc | apply Kd.R_drewN | apply Kd.R_drew)); exact (Kd.R_mono (Kd.R_far (p := ⟨gb468, 9, none⟩) (Kd.R_far (p := ⟨gb468, 8, none⟩) (Kd.R_far (p := ⟨gb468, 7, none⟩) (Kd.R_far (p := ⟨gb468, 6, none⟩) (Kd.R_far (p := ⟨gb468, 5, none⟩) (Kd.R_far (p := ⟨gb468, 4, none⟩) (Kd.R_far (p := ⟨gb468, 3, none⟩) (Kd.R_far (p := ⟨gb468, 2, none⟩) (Kd.R_far (p := ⟨gb468, 1, none⟩) (Kd.R_far (p := ⟨gb468, 0, none⟩) (Kd.R_types HO_432009.out BK468.out (by decide)) (fun _ hk => hk.2) (.int .i64 t453)) (fun _ hk => hk.2) (.int .i64 t454)) (fun _ hk => hk.2) (.bool t455)) (fun _ hk => hk.2) (.int .i64 t456)) (fun _ hk => hk.2) (.int .i64 t457)) (fun _ hk => hk.2) (.int .i64 t458)) (fun _ hk => hk.2) (.int .i64 t459)) (fun _ hk => hk.2) (.string t460)) (fun _ hk => hk.2) (.slice Ao48 t461.length co48)) (fun _ hk => hk.2) (.slice Ao49 t464.length co49)) (fun _ h_ => h_.1))) hb); have n2_ := Aside0.mk (Kd.R_below (by (with_reducible repeat (first | apply Kd.R_alloc | apply Kd.R_drewN | apply Kd.R_drew)); exact (Kd.R_mono (Kd.R_far (p := ⟨gb468, 9, none⟩) (Kd.R_far (p := ⟨gb468, 8, none⟩) (Kd.R_far (p := ⟨gb468, 7, none⟩) (Kd.R_far (p := ⟨gb468, 6, none⟩) (Kd.R_far (p := ⟨gb468, 5, none⟩) (Kd.R_far (p := ⟨gb468, 4, none⟩) (Kd.R_far (p := ⟨gb468, 3, none⟩) (Kd.R_far (p := ⟨gb468, 2, none⟩) (Kd.R_far (p := ⟨gb468, 1, none⟩) (Kd.R_far (p := ⟨gb468, 0, none⟩) (Kd.R_types HO_448008.out BK468.out (by decide)) (fun _ hk => hk.2) (.int .i64 t453)) (fun _ hk => hk.2) (.int .i64 t454)) (fun _ hk => hk.2) (.bool t455)) (fun _ hk => hk.2) (.int .i64 t456)) (fun _ hk => hk.2) (.int .i64 t457)) (fun _ hk => hk.2) (.int .i64 t458)) (fun _ hk => hk.2) (.int .i64 t459)) (fun _ hk => hk.2) (.string t460)) (fun _ hk => hk.2) (.slice Ao48 t461.length co48)) (fun _ hk => hk.2) (.slice Ao49 t464.length co49)) (fun _ h_ => h_.1))) hb); have n3_ := Aside0.mk (Kd.R_below (by (with_reducible repeat (first | apply Kd.R_alloc | apply Kd.R_drewN | apply Kd.R_drew)); exact (Kd.R_mono (Kd.R_far (p := ⟨gb468, 9, none⟩) (Kd.R_far (p := ⟨gb468, 8, none⟩) (Kd.R_far (p := ⟨gb468, 7, none⟩) (Kd.R_far (p := ⟨gb468, 6, none⟩) (Kd.R_far (p := ⟨gb468, 5, none⟩) (Kd.R_far (p := ⟨gb468, 4, none⟩) (Kd.R_far (p := ⟨gb468, 3, none⟩) (Kd.R_far (p := ⟨gb468, 2, none⟩) (Kd.R_far (p := ⟨gb468, 1, none⟩) (Kd.R_far (p := ⟨gb468, 0, none⟩) (Kd.R_types HO_448009.out BK468.out (by decide)) (fun _ hk => hk.2) (.int .i64 t453)) (fun _ hk => hk.2) (.int .i64 t454)) (fun _ hk => hk.2) (.bool t455)) (fun _ hk => hk.2) (.int .i64 t456)) (fun _ hk => hk.2) (.int .i64 t457)) (fun _ hk => hk.2) (.int .i64 t458)) (fun _ hk => hk.2) (.int .i64 t459)) (fun _ hk => hk.2) (.string t460)) (fun _ hk => hk.2) (.slice Ao48 t461.length co48)) (fun _ hk => hk.2) (.slice Ao49 t464.length co49)) (fun _ h_ => h_.1))) hb); have n4_ := Aside0.mk (Kd.R_below (by (with_reducible repeat (first | apply Kd.R_alloc | apply Kd.R_drewN | apply Kd.R_drew)); exact (Kd.R_mono (Kd.R_far (p := ⟨gb468, 9, none⟩) (Kd.R_far (p := ⟨gb468, 8, none⟩) (Kd.R_far (p := ⟨gb468, 7, none⟩) (Kd.R_far (p := ⟨gb468, 6, none⟩) (Kd.R_far (p := ⟨gb468, 5, none⟩) (Kd.R_far (p := ⟨gb468, 4, none⟩) (Kd.R_far (p := ⟨gb468, 3, none⟩) (Kd.R_far (p := ⟨gb468, 2, none⟩) (Kd.R_far (p := ⟨gb468, 1, none⟩) (Kd.R_far (p := ⟨gb468, 0, none⟩) (Kd.R_types HO463.out BK468.out (by decide)) (fun _ hk => hk.2) (.int .i64 t453)) (fun _ hk => hk.2) (.int .i64 t454)) (fun _ hk => hk.2) (.bool t455)) (fun _ hk => hk.2) (.int .i64 t456)) (fun _ hk => hk.2) (.int .i64 t457)) (fun _ hk => hk.2) (.int .i64 t458)) (fun _ hk => hk.2) (.int .i64 t459)) (fun _ hk => hk.2) (.string t460)) (fun _ hk => hk.2) (.slice Ao48 t461.length co48)) (fun _ hk => hk.2) (.slice Ao49 t464.length co49)) (fun _ h_ => h_.1))) hb); have n5_ := Aside0.mk (Kd.R_below (by (with_reducible repeat (first | apply Kd.R_alloc | apply Kd.R_drewN | apply Kd.R_drew)); exact (Kd.R_mono (Kd.R_far (p := ⟨gb468, 9, none⟩) (Kd.R_far (p := ⟨gb468, 8, none⟩) (Kd.R_far (p := ⟨gb468, 7, none⟩) (Kd.R_far (p := ⟨gb468, 6, none⟩) (Kd.R_far (p := ⟨gb468, 5, none⟩) (Kd.R_far (p := ⟨gb468, 4, none⟩) (Kd.R_far (p := ⟨gb468, 3, none⟩) (Kd.R_far (p := ⟨gb468, 2, none⟩) (Kd.R_far (p := ⟨gb468, 1, none⟩) (Kd.R_far (p := ⟨gb468, 0, none⟩) (Kd.R_types HO466.out BK468.out (by decide)) (fun _ hk => hk.2) (.int .i64 t453)) (fun _ hk => hk.2) (.int .i64 t454)) (fun _ hk => hk.2) (.bool t455)) (fun _ hk => hk.2) (.int .i64 t456)) (fun _ hk => hk.2) (.int .i64 t457)) (fun _ hk => hk.2) (.int .i64 t458)) (fun _ hk => hk.2) (.int .i64 t459)) (fun _ hk => hk.2) (.string t460)) (fun _ hk => hk.2) (.slice Ao48 t461.length co48)) (fun _ hk => hk.2) (.slice Ao49 t464.length co49)) (fun _ h_ => h_.1))) hb); have n6_ := Aside0.mk (blk_below (g := gb431) (o := .cells #[.int .i64 t416, .int .i64 t417, .bool t418, .int .i64 t419, .int .i64 t420, .int .i64 t421, .int .i64 t422, .string t423, .slice Ao8 t424.length co8, .slice Ao9 t427.length co9] 40 (0, 0)) (by (with_reducible repeat (first | refine blk_drewN ?_ _ | refine blk_drew ?_ | refine blk_alloc ?_ _)); refine blk_far ?_ NB431_468.out _; (with_reducible repeat (first | refine blk_drewN ?_ _ | refine blk_drew ?_ | refine blk_alloc ?_ _)); refine blk_far ?_ NB431_468.out _; (with_reducible repeat (first | refine blk_drewN ?_ _ | refine blk_drew ?_ | refine blk_alloc ?_ _)); refine blk_far ?_ NB431_468.out _; (with_reducible repeat (first | refine blk_drewN ?_ _ | refine blk_drew ?_ | refine blk_alloc ?_ _)); refine blk_far ?_ NB431_468.out _; (with_reducible repeat (first | refine blk_drewN ?_ _ | refine blk_drew ?_ | refine blk_alloc ?_ _)); refine blk_far ?_ NB431_468.out _; (with_reducible repeat (first | refine blk_drewN ?_ _ | refine blk_drew ?_ | refine blk_alloc ?_ _)); refine blk_far ?_ NB431_468.out _; (with_reducible repeat (first | refine blk_drewN ?_ _ | refine blk_drew ?_ | refine blk_alloc ?_ _)); refine blk_far ?_ NB431_468.out _; (with_reducible repeat (first | refine blk_drewN ?_ _ | refine blk_drew ?_ | refine blk_alloc ?_ _)); refine blk_far ?_ NB431_468.out _; (with_reducible repeat (first | refine blk_drewN ?_ _ | refine blk_drew ?_ | refine blk_alloc ?_ _)); refine blk_far ?_ NB431_468.out _; (with_reducible repeat (first | refine blk_drewN ?_ _ | refine blk_drew ?_ | refine blk_alloc ?_ _)); refine blk_far ?_ NB431_468.out _; (with_reducible repeat (first | refine blk_drewN ?_ _ | refine blk_drew ?_ | refine blk_alloc ?_ _)); exact BK431.out) hb); have n7_ := Aside0.mk (blk_below (g := gb447) (o := .cells #[.int .i64 t432, .int .i64 t433, .bool t434, .int .i64 t435, .int .i64 t436, .int .i64 t437, .int .i64 t438, .string t439, .slice Ao14 t440.length co14, .slice Ao15 t443.length co15] 40 (0, 0)) (by (with_reducible repeat (first | refine blk_drewN ?_ _ | refine blk_drew ?_ | refine blk_alloc ?_ _)); refine blk_far ?_ NB447_468.out _; (with_reducible repeat (first | refine blk_drewN ?_ _ | refine blk_drew ?_ | refine blk_alloc ?_ _)); refine blk_far ?_ NB447_468.out _; (with_reducible repeat (first | refine blk_drewN ?_ _ | refine blk_drew ?_ | refine blk_alloc ?_ _)); refine blk_far ?_ NB447_468.out _; (with_reducible repeat (first | refine blk_drewN ?_ _ | refine blk_drew ?_ | refine blk_alloc ?_ _)); refine blk_far ?_ NB447_468.out _; (with_reducible repeat (first | refine blk_drewN ?_ _ | refine blk_drew ?_ | refine blk_alloc ?_ _)); refine blk_far ?_ NB447_468.out _; (with_reducible repeat (first | refine blk_drewN ?_ _ | refine blk_drew ?_ | refine blk_alloc ?_ _)); refine blk_far ?_ NB447_468.out _; (with_reducible repeat (first | refine blk_drewN ?_ _ | refine blk_drew ?_ | refine blk_alloc ?_ _)); refine blk_far ?_ NB447_468.out _; (with_reducible repeat (first | refine blk_drewN ?_ _ | refine blk_drew ?_ | refine blk_alloc ?_ _)); refine blk_far ?_ NB447_468.out _; (with_reducible repeat (first | refine blk_drewN ?_ _ | refine blk_drew ?_ | refine blk_alloc ?_ _)); refine blk_far ?_ NB447_468.out _; (with_reducible repeat (first | refine blk_drewN ?_ _ | refine blk_drew ?_ | refine blk_alloc ?_ _)); refine blk_far ?_ NB447_468.out _; (with_reducible repeat (first | refine blk_drewN ?_ _ | refine blk_drew ?_ | refine blk_alloc ?_ _)); exact BK447.out) hb); have n8_ := Aside0.mk (blk_below (g := gb468) (o := .cells #[.int .i64 t453, .int .i64 t454, .bool t455, .int .i64 t456, .int .i64 t457, .int .i64 t458, .int .i64 t459, .string t460, .slice Ao48 t461.length co48, .slice Ao49 t464.length co49] 40 (0, 0)) (by (with_reducible repeat (first | refine blk_drewN ?_ _ | refine blk_drew ?_ | refine blk_alloc ?_ _)); refine blk_put (cs := #[.int .i64 t453, .int .i64 t454, .bool t455, .int .i64 t456, .int .i64 t457, .int .i64 t458, .int .i64 t459, .string t460, .slice Ao48 t461.length co48, .slice none 0 0]) ?_ 9 _ rfl; (with_reducible repeat (first | refine blk_drewN ?_ _ | refine blk_drew ?_ | refine blk_alloc ?_ _)); refine blk_put (cs := #[.int .i64 t453, .int .i64 t454, .bool t455, .int .i64 t456, .int .i64 t457, .int .i64 t458, .int .i64 t459, .string t460, .slice none 0 0, .slice none 0 0]) ?_ 8 _ rfl; (with_reducible repeat (first | refine blk_drewN ?_ _ | refine blk_drew ?_ | refine blk_alloc ?_ _)); refine blk_put (cs := #[.int .i64 t453, .int .i64 t454, .bool t455, .int .i64 t456, .int .i64 t457, .int .i64 t458, .int .i64 t459, .string (⟨#[]⟩ : ByteArray), .slice none 0 0, .slice none 0 0]) ?_ 7 _ rfl; (with_reducible repeat (first | refine blk_drewN ?_ _ | refine blk_drew ?_ | refine blk_alloc ?_ _)); refine blk_put (cs := #[.int .i64 t453, .int .i64 t454, .bool t455, .int .i64 t456, .int .i64 t457, .int .i64 t458, .int .i64 0, .string (⟨#[]⟩ : ByteArray), .slice none 0 0, .slice none 0 0]) ?_ 6 _ rfl; (with_reducible repeat (first | refine blk_drewN ?_ _ | refine blk_drew ?_ | refine blk_alloc ?_ _)); refine blk_put (cs := #[.int .i64 t453, .int .i64 t454, .bool t455, .int .i64 t456, .int .i64 t457, .int .i64 0, .int .i64 0, .string (⟨#[]⟩ : ByteArray), .slice none 0 0, .slice none 0 0]) ?_ 5 _ rfl; (with_reducible repeat (first | refine blk_drewN ?_ _ | refine blk_drew ?_ | refine blk_alloc ?_ _)); refine blk_put (cs := #[.int .i64 t453, .int .i64 t454, .bool t455, .int .i64 t456, .int .i64 0, .int .i64 0, .int .i64 0, .string (⟨#[]⟩ : ByteArray), .slice none 0 0, .slice none 0 0]) ?_ 4 _ rfl; (with_reducible repeat (first | refine blk_drewN ?_ _ | refine blk_drew ?_ | refine blk_alloc ?_ _)); refine blk_put (cs := #[.int .i64 t453, .int .i64 t454, .bool t455, .int .i64 0, .int .i64 0, .int .i64 0, .int .i64 0, .string (⟨#[]⟩ : ByteArray), .slice none 0 0, .slice none 0 0]) ?_ 3 _ rfl; (with_reducible repeat (first | refine blk_drewN ?_ _ | refine blk_drew ?_ | refine blk_alloc ?_ _)); refine blk_put (cs := #[.int .i64 t453, .int .i64 t454, .bool false, .int .i64 0, .int .i64 0, .int .i64 0, .int .i64 0, .string (⟨#[]⟩ : ByteArray), .slice none 0 0, .slice none 0 0]) ?_ 2 _ rfl; (with_reducible repeat (first | refine blk_drewN ?_ _ | refine blk_drew ?_ | refine blk_alloc ?_ _)); refine blk_put (cs := #[.int .i64 t453, .int .i64 0, .bool false, .int .i64 0, .int .i64 0, .int .i64 0, .int .i64 0, .string (⟨#[]⟩ : ByteArray), .slice none 0 0, .slice none 0 0]) ?_ 1 _ rfl; (with_reducible repeat (first | refine blk_drewN ?_ _ | refine blk_drew ?_ | refine blk_alloc ?_ _)); refine blk_put (cs := #[.int .i64 0, .int .i64 0, .bool false, .int .i64 0, .int .i64 0, .int .i64 0, .int .i64 0, .string (⟨#[]⟩ : ByteArray), .slice none 0 0, .slice none 0 0]) ?_ 0 _ rfl; (with_reducible repeat (first | refine blk_drewN ?_ _ | refine blk_drew ?_ | refine blk_alloc ?_ _)); exact BK468.out) hb); have n9_ := Aside0.mk (below_step (by repeat (first | (with_reducible first | exact HB.out | apply below_alloc | apply pw_below_drewN | apply below_drew1 | refine below_set ?_ GE431.out | refine below_set ?_ GE447.out | refine below_set ?_ GE468.out) | exact HB.out)) hb); clear HO_432008; clear HO_432009; clear HO_448008; clear HO_448009; clear HO463; clear HO466; clear BK431; clear BK447; clear BK468; clear HB; have HO_432008 := n0_; have HO_432009 := n1_; have HO_448008 := n2_; have HO_448009 := n3_; have HO463 := n4_; have HO466 := n5_; have BK431 := n6_; have BK447 := n7_; have BK468 := n8_; have HB := n9_; clear n0_ n1_ n2_ n3_ n4_ n5_ n6_ n7_ n8_ n9_; (try clear hb); (try clear hb2); (try clear hk); (try clear hi)))
                go_meet
                case rel => exact ⟨_, ((t467 != t430)), (by first | rfl | (simp; done) | (simp [*]; done)), H', ⟨by have := HJ3.out; first | omega | exact Nat.le_refl _⟩, ⟨by (with_reducible repeat (first | apply Kd.R_alloc | apply Kd.R_drewN | apply Kd.R_drew)); exact HO_432008.out⟩, ⟨by (with_reducible repeat (first | apply Kd.R_alloc | apply Kd.R_drewN | apply Kd.R_drew)); exact HO_432009.out⟩, ⟨by (with_reducible repeat (first | apply Kd.R_alloc | apply Kd.R_drewN | apply Kd.R_drew)); exact HO_448008.out⟩, ⟨by (with_reducible repeat (first | apply Kd.R_alloc | apply Kd.R_drewN | apply Kd.R_drew)); exact HO_448009.out⟩, ⟨by (with_reducible repeat (first | apply Kd.R_alloc | apply Kd.R_drewN | apply Kd.R_drew)); exact Kd.R_mono HO463.out (fun _ hk => ⟨hk.1.2, hk.2⟩)⟩, ⟨by (with_reducible repeat (first | apply Kd.R_alloc | apply Kd.R_drewN | apply Kd.R_drew)); exact Kd.R_mono HO466.out (fun _ hk => ⟨hk.1.2, hk.2⟩)⟩, ⟨by (with_reducible repeat (first | refine blk_drewN ?_ _ | refine blk_drew ?_ | refine blk_alloc ?_ _)); exact BK431.out⟩, ⟨by (with_reducible repeat (first | refine blk_drewN ?_ _ | refine blk_drew ?_ | refine blk_alloc ?_ _)); exact BK447.out⟩, ⟨by (with_reducible repeat (first | refine blk_drewN ?_ _ | refine blk_drew ?_ | refine blk_alloc ?_ _)); exact BK468.out⟩, ⟨by repeat (first | (with_reducible first | exact HB.out | apply below_alloc | apply pw_below_drewN | apply below_drew1 | refine below_set ?_ GE431.out | refine below_set ?_ GE447.out | refine below_set ?_ GE468.out) | exact HB.out)⟩⟩
              · replace c51 := Bool.eq_false_iff.mpr c51
                subst c51
                have H1 : (laws_FnExactNewClient.j1 kj3 t449 true t432 t433 t434 t435 t436 t437 t438 t439 t450 t451) = some r := by rw [if_neg (show ¬ (false = true) by decide)] at H; exact H
                clear H
                have H := H1
                clear H1
                have H' := Aside0.mk H
                clear H
                have hnb58 := NB468_431.out
                have hnc58 := NB431_468.out
                have hnb59 := NB468_447.out
                have hnc59 := NB447_468.out
                have hcz60_0 : w44.cell? ⟨gb468, 0, none⟩ = some (.int .i64 0) := (blk_cell BK468.out 0).trans rfl
                have hcz60_1 : w44.cell? ⟨gb468, 1, none⟩ = some (.int .i64 0) := (blk_cell BK468.out 1).trans rfl
                have hcz60_2 : w44.cell? ⟨gb468, 2, none⟩ = some (.bool false) := (blk_cell BK468.out 2).trans rfl
                have hcz60_3 : w44.cell? ⟨gb468, 3, none⟩ = some (.int .i64 0) := (blk_cell BK468.out 3).trans rfl
                have hcz60_4 : w44.cell? ⟨gb468, 4, none⟩ = some (.int .i64 0) := (blk_cell BK468.out 4).trans rfl
                have hcz60_5 : w44.cell? ⟨gb468, 5, none⟩ = some (.int .i64 0) := (blk_cell BK468.out 5).trans rfl
                have hcz60_6 : w44.cell? ⟨gb468, 6, none⟩ = some (.int .i64 0) := (blk_cell BK468.out 6).trans rfl
                have hcz60_7 : w44.cell? ⟨gb468, 7, none⟩ = some (.string (⟨#[]⟩ : ByteArray)) := (blk_cell BK468.out 7).trans rfl
                have hcz60_8 : w44.cell? ⟨gb468, 8, none⟩ = some (.slice none 0 0) := (blk_cell BK468.out 8).trans rfl
                have hcz60_9 : w44.cell? ⟨gb468, 9, none⟩ = some (.slice none 0 0) := (blk_cell BK468.out 9).trans rfl
                have hfz60_0 := blk_frozen BK468.out 0
                have hfz60_1 := blk_frozen BK468.out 1
                have hfz60_2 := blk_frozen BK468.out 2
                have hfz60_3 := blk_frozen BK468.out 3
                have hfz60_4 := blk_frozen BK468.out 4
                have hfz60_5 := blk_frozen BK468.out 5
                have hfz60_6 := blk_frozen BK468.out 6
                have hfz60_7 := blk_frozen BK468.out 7
                have hfz60_8 := blk_frozen BK468.out 8
                have hfz60_9 := blk_frozen BK468.out 9
                have hnb61 := NB431_447.out
                have hnc61 := NB447_431.out
                have hcz62_0 : w44.cell? ⟨gb431, 0, none⟩ = some (.int .i64 t416) := (blk_cell BK431.out 0).trans rfl
                have hcz62_1 : w44.cell? ⟨gb431, 1, none⟩ = some (.int .i64 t417) := (blk_cell BK431.out 1).trans rfl
                have hcz62_2 : w44.cell? ⟨gb431, 2, none⟩ = some (.bool t418) := (blk_cell BK431.out 2).trans rfl
                have hcz62_3 : w44.cell? ⟨gb431, 3, none⟩ = some (.int .i64 t419) := (blk_cell BK431.out 3).trans rfl
                have hcz62_4 : w44.cell? ⟨gb431, 4, none⟩ = some (.int .i64 t420) := (blk_cell BK431.out 4).trans rfl
                have hcz62_5 : w44.cell? ⟨gb431, 5, none⟩ = some (.int .i64 t421) := (blk_cell BK431.out 5).trans rfl
                have hcz62_6 : w44.cell? ⟨gb431, 6, none⟩ = some (.int .i64 t422) := (blk_cell BK431.out 6).trans rfl
                have hcz62_7 : w44.cell? ⟨gb431, 7, none⟩ = some (.string t423) := (blk_cell BK431.out 7).trans rfl
                have hcz62_8 : w44.cell? ⟨gb431, 8, none⟩ = some (.slice Ao8 t424.length co8) := (blk_cell BK431.out 8).trans rfl
                have hcz62_9 : w44.cell? ⟨gb431, 9, none⟩ = some (.slice Ao9 t427.length co9) := (blk_cell BK431.out 9).trans rfl
                have hfz62_0 := blk_frozen BK431.out 0
                have hfz62_1 := blk_frozen BK431.out 1
                have hfz62_2 := blk_frozen BK431.out 2
                have hfz62_3 := blk_frozen BK431.out 3
                have hfz62_4 := blk_frozen BK431.out 4
                have hfz62_5 := blk_frozen BK431.out 5
                have hfz62_6 := blk_frozen BK431.out 6
                have hfz62_7 := blk_frozen BK431.out 7
                have hfz62_8 := blk_frozen BK431.out 8
                have hfz62_9 := blk_frozen BK431.out 9
                go_wp2_with (first | ((with_reducible refine gate_callee (f := 28) rfl ?_); refine goesL_ (some 48) rfl rfl Try.func28 (by kernel_rfl) rfl #[.agg #[.int .i64 t453, .int .i64 t454, .bool t455, .int .i64 t456, .int .i64 t457, .int .i64 t458, .int .i64 t459, .string t460, .slice Ao48 t461.length co48, .slice Ao49 t464.length co49], .agg #[.int .i64 t416, .int .i64 t417, .bool t418, .int .i64 t419, .int .i64 t420, .int .i64 t421, .int .i64 t422, .string t423, .slice Ao8 t424.length co8, .slice Ao9 t427.length co9]] rfl (by (try simp only [List.map_toArray, List.map_cons, List.map_nil]); first | done | rfl | (simp only [List.length_drop, List.length_take]; rfl)) ?_; (with_reducible refine (laws_eqClient.calls kj3 t453 t454 t455 t456 t457 t458 t459 t460 _ _ t461 _ _ t464 t416 t417 t418 t419 t420 t421 t422 t423 _ _ t424 _ _ t427 false _ ?side1 ?side2 ?side3 ?side4 ?side5 ?side6 ?side7 ?side8 A50.out).mono ?_); (case side1 => refine (Kd.R_reads' (e := 151) (base := w.heap.size) (ok := fun k_ => ((True ∧ some k_ ≠ (.slice Ao8 t424.length co8 : Value).ownBlock) ∧ some k_ ≠ (.slice Ao14 t440.length co14 : Value).ownBlock)) (n := t461.length) (c := co48) ?_).2.2; exact (by (with_reducible repeat (first | apply Kd.R_alloc | apply Kd.R_drewN | apply Kd.R_drew)); exact (Kd.R_mono (Kd.R_far (p := ⟨gb468, 9, none⟩) (Kd.R_far (p := ⟨gb468, 8, none⟩) (Kd.R_far (p := ⟨gb468, 7, none⟩) (Kd.R_far (p := ⟨gb468, 6, none⟩) (Kd.R_far (p := ⟨gb468, 5, none⟩) (Kd.R_far (p := ⟨gb468, 4, none⟩) (Kd.R_far (p := ⟨gb468, 3, none⟩) (Kd.R_far (p := ⟨gb468, 2, none⟩) (Kd.R_far (p := ⟨gb468, 1, none⟩) (Kd.R_far (p := ⟨gb468, 0, none⟩) (Kd.R_types HO463.out BK468.out (by decide)) (fun _ hk => hk.2) (.int .i64 t453)) (fun _ hk => hk.2) (.int .i64 t454)) (fun _ hk => hk.2) (.bool t455)) (fun _ hk => hk.2) (.int .i64 t456)) (fun _ hk => hk.2) (.int .i64 t457)) (fun _ hk => hk.2) (.int .i64 t458)) (fun _ hk => hk.2) (.int .i64 t459)) (fun _ hk => hk.2) (.string t460)) (fun _ hk => hk.2) (.slice Ao48 t461.length co48)) (fun _ hk => hk.2) (.slice Ao49 t464.length co49)) (fun _ h_ => h_.1)))); (case side2 => exact (Kd.R_reads' HO463.out).2.1); (case side3 => refine (Kd.R_reads' (e := 149) (base := w.heap.size) (ok := fun k_ => ((True ∧ some k_ ≠ (.slice Ao9 t427.length co9 : Value).ownBlock) ∧ some k_ ≠ (.slice Ao15 t443.length co15 : Value).ownBlock)) (n := t464.length) (c := co49) ?_).2.2; exact (by (with_reducible repeat (first | apply Kd.R_alloc | apply Kd.R_drewN | apply Kd.R_drew)); exact (Kd.R_mono (Kd.R_far (p := ⟨gb468, 9, none⟩) (Kd.R_far (p := ⟨gb468, 8, none⟩) (Kd.R_far (p := ⟨gb468, 7, none⟩) (Kd.R_far (p := ⟨gb468, 6, none⟩) (Kd.R_far (p := ⟨gb468, 5, none⟩) (Kd.R_far (p := ⟨gb468, 4, none⟩) (Kd.R_far (p := ⟨gb468, 3, none⟩) (Kd.R_far (p := ⟨gb468, 2, none⟩) (Kd.R_far (p := ⟨gb468, 1, none⟩) (Kd.R_far (p := ⟨gb468, 0, none⟩) (Kd.R_types HO466.out BK468.out (by decide)) (fun _ hk => hk.2) (.int .i64 t453)) (fun _ hk => hk.2) (.int .i64 t454)) (fun _ hk => hk.2) (.bool t455)) (fun _ hk => hk.2) (.int .i64 t456)) (fun _ hk => hk.2) (.int .i64 t457)) (fun _ hk => hk.2) (.int .i64 t458)) (fun _ hk => hk.2) (.int .i64 t459)) (fun _ hk => hk.2) (.string t460)) (fun _ hk => hk.2) (.slice Ao48 t461.length co48)) (fun _ hk => hk.2) (.slice Ao49 t464.length co49)) (fun _ h_ => h_.1)))); (case side4 => exact (Kd.R_reads' HO466.out).2.1); (case side5 => refine (Kd.R_reads' (e := 151) (base := w.heap.size) (ok := fun k_ => (some k_ ≠ (.slice Ao14 t440.length co14 : Value).ownBlock ∧ some k_ ≠ (.slice Ao48 t461.length co48 : Value).ownBlock)) (n := t424.length) (c := co8) ?_).2.2; exact (by (with_reducible repeat (first | apply Kd.R_alloc | apply Kd.R_drewN | apply Kd.R_drew)); exact (Kd.R_mono (Kd.R_far (p := ⟨gb468, 9, none⟩) (Kd.R_far (p := ⟨gb468, 8, none⟩) (Kd.R_far (p := ⟨gb468, 7, none⟩) (Kd.R_far (p := ⟨gb468, 6, none⟩) (Kd.R_far (p := ⟨gb468, 5, none⟩) (Kd.R_far (p := ⟨gb468, 4, none⟩) (Kd.R_far (p := ⟨gb468, 3, none⟩) (Kd.R_far (p := ⟨gb468, 2, none⟩) (Kd.R_far (p := ⟨gb468, 1, none⟩) (Kd.R_far (p := ⟨gb468, 0, none⟩) (Kd.R_types HO_432008.out BK468.out (by decide)) (fun _ hk => hk.2) (.int .i64 t453)) (fun _ hk => hk.2) (.int .i64 t454)) (fun _ hk => hk.2) (.bool t455)) (fun _ hk => hk.2) (.int .i64 t456)) (fun _ hk => hk.2) (.int .i64 t457)) (fun _ hk => hk.2) (.int .i64 t458)) (fun _ hk => hk.2) (.int .i64 t459)) (fun _ hk => hk.2) (.string t460)) (fun _ hk => hk.2) (.slice Ao48 t461.length co48)) (fun _ hk => hk.2) (.slice Ao49 t464.length co49)) (fun _ h_ => h_.1)))); (case side6 => exact (Kd.R_reads' HO_432008.out).2.1); (case side7 => refine (Kd.R_reads' (e := 149) (base := w.heap.size) (ok := fun k_ => (some k_ ≠ (.slice Ao15 t443.length co15 : Value).ownBlock ∧ some k_ ≠ (.slice Ao49 t464.length co49 : Value).ownBlock)) (n := t427.length) (c := co9) ?_).2.2; exact (by (with_reducible repeat (first | apply Kd.R_alloc | apply Kd.R_drewN | apply Kd.R_drew)); exact (Kd.R_mono (Kd.R_far (p := ⟨gb468, 9, none⟩) (Kd.R_far (p := ⟨gb468, 8, none⟩) (Kd.R_far (p := ⟨gb468, 7, none⟩) (Kd.R_far (p := ⟨gb468, 6, none⟩) (Kd.R_far (p := ⟨gb468, 5, none⟩) (Kd.R_far (p := ⟨gb468, 4, none⟩) (Kd.R_far (p := ⟨gb468, 3, none⟩) (Kd.R_far (p := ⟨gb468, 2, none⟩) (Kd.R_far (p := ⟨gb468, 1, none⟩) (Kd.R_far (p := ⟨gb468, 0, none⟩) (Kd.R_types HO_432009.out BK468.out (by decide)) (fun _ hk => hk.2) (.int .i64 t453)) (fun _ hk => hk.2) (.int .i64 t454)) (fun _ hk => hk.2) (.bool t455)) (fun _ hk => hk.2) (.int .i64 t456)) (fun _ hk => hk.2) (.int .i64 t457)) (fun _ hk => hk.2) (.int .i64 t458)) (fun _ hk => hk.2) (.int .i64 t459)) (fun _ hk => hk.2) (.string t460)) (fun _ hk => hk.2) (.slice Ao48 t461.length co48)) (fun _ hk => hk.2) (.slice Ao49 t464.length co49)) (fun _ h_ => h_.1)))); (case side8 => exact (Kd.R_reads' HO_432009.out).2.1); rintro e w63 ⟨rfl, hb⟩; refine ⟨_, rfl, ?_⟩; have n0_ := Aside0.mk (Kd.R_below (by (with_reducible repeat (first | apply Kd.R_alloc | apply Kd.R_drewN | apply Kd.R_drew)); exact (Kd.R_mono (Kd.R_far (p := ⟨gb468, 9, none⟩) (Kd.R_far (p := ⟨gb468, 8, none⟩) (Kd.R_far (p := ⟨gb468, 7, none⟩) (Kd.R_far (p := ⟨gb468, 6, none⟩) (Kd.R_far (p := ⟨gb468, 5, none⟩) (Kd.R_far (p := ⟨gb468, 4, none⟩) (Kd.R_far (p := ⟨gb468, 3, none⟩) (Kd.R_far (p := ⟨gb468, 2, none⟩) (Kd.R_far (p := ⟨gb468, 1, none⟩) (Kd.R_far (p := ⟨gb468, 0, none⟩) (Kd.R_types HO_432008.out BK468.out (by decide)) (fun _ hk => hk.2) (.int .i64 t453)) (fun _ hk => hk.2) (.int .i64 t454)) (fun _ hk => hk.2) (.bool t455)) (fun _ hk => hk.2) (.int .i64 t456)) (fun _ hk => hk.2) (.int .i64 t457)) (fun _ hk => hk.2) (.int .i64 t458)) (fun _ hk => hk.2) (.int .i64 t459)) (fun _ hk => hk.2) (.string t460)) (fun _ hk => hk.2) (.slice Ao48 t461.length co48)) (fun _ hk => hk.2) (.slice Ao49 t464.length co49)) (fun _ h_ => h_.1))) hb); have n1_ := Aside0.mk (Kd.R_below (by (with_reducible repeat (first | apply Kd.R_alloc | apply Kd.R_drewN | apply Kd.R_drew)); exact (Kd.R_mono (Kd.R_far (p := ⟨gb468, 9, none⟩) (Kd.R_far (p := ⟨gb468, 8, none⟩) (Kd.R_far (p := ⟨gb468, 7, none⟩) (Kd.R_far (p := ⟨gb468, 6, none⟩) (Kd.R_far (p := ⟨gb468, 5, none⟩) (Kd.R_far (p := ⟨gb468, 4, none⟩) (Kd.R_far (p := ⟨gb468, 3, none⟩) (Kd.R_far (p := ⟨gb468, 2, none⟩) (Kd.R_far (p := ⟨gb468, 1, none⟩) (Kd.R_far (p := ⟨gb468, 0, none⟩) (Kd.R_types HO_432009.out BK468.out (by decide)) (fun _ hk => hk.2) (.int .i64 t453)) (fun _ hk => hk.2) (.int .i64 t454)) (fun _ hk => hk.2) (.bool t455)) (fun _ hk => hk.2) (.int .i64 t456)) (fun _ hk => hk.2) (.int .i64 t457)) (fun _ hk => hk.2) (.int .i64 t458)) (fun _ hk => hk.2) (.int .i64 t459)) (fun _ hk => hk.2) (.string t460)) (fun _ hk => hk.2) (.slice Ao48 t461.length co48)) (fun _ hk => hk.2) (.slice Ao49 t464.length co49)) (fun _ h_ => h_.1))) hb); have n2_ := Aside0.mk (Kd.R_below (by (with_reducible repeat (first | apply Kd.R_alloc | apply Kd.R_drewN | apply Kd.R_drew)); exact (Kd.R_mono (Kd.R_far (p := ⟨gb468, 9, none⟩) (Kd.R_far (p := ⟨gb468, 8, none⟩) (Kd.R_far (p := ⟨gb468, 7, none⟩) (Kd.R_far (p := ⟨gb468, 6, none⟩) (Kd.R_far (p := ⟨gb468, 5, none⟩) (Kd.R_far (p := ⟨gb468, 4, none⟩) (Kd.R_far (p := ⟨gb468, 3, none⟩) (Kd.R_far (p := ⟨gb468, 2, none⟩) (Kd.R_far (p := ⟨gb468, 1, none⟩) (Kd.R_far (p := ⟨gb468, 0, none⟩) (Kd.R_types HO_448008.out BK468.out (by decide)) (fun _ hk => hk.2) (.int .i64 t453)) (fun _ hk => hk.2) (.int .i64 t454)) (fun _ hk => hk.2) (.bool t455)) (fun _ hk => hk.2) (.int .i64 t456)) (fun _ hk => hk.2) (.int .i64 t457)) (fun _ hk => hk.2) (.int .i64 t458)) (fun _ hk => hk.2) (.int .i64 t459)) (fun _ hk => hk.2) (.string t460)) (fun _ hk => hk.2) (.slice Ao48 t461.length co48)) (fun _ hk => hk.2) (.slice Ao49 t464.length co49)) (fun _ h_ => h_.1))) hb); have n3_ := Aside0.mk (Kd.R_below (by (with_reducible repeat (first | apply Kd.R_alloc | apply Kd.R_drewN | apply Kd.R_drew)); exact (Kd.R_mono (Kd.R_far (p := ⟨gb468, 9, none⟩) (Kd.R_far (p := ⟨gb468, 8, none⟩) (Kd.R_far (p := ⟨gb468, 7, none⟩) (Kd.R_far (p := ⟨gb468, 6, none⟩) (Kd.R_far (p := ⟨gb468, 5, none⟩) (Kd.R_far (p := ⟨gb468, 4, none⟩) (Kd.R_far (p := ⟨gb468, 3, none⟩) (Kd.R_far (p := ⟨gb468, 2, none⟩) (Kd.R_far (p := ⟨gb468, 1, none⟩) (Kd.R_far (p := ⟨gb468, 0, none⟩) (Kd.R_types HO_448009.out BK468.out (by decide)) (fun _ hk => hk.2) (.int .i64 t453)) (fun _ hk => hk.2) (.int .i64 t454)) (fun _ hk => hk.2) (.bool t455)) (fun _ hk => hk.2) (.int .i64 t456)) (fun _ hk => hk.2) (.int .i64 t457)) (fun _ hk => hk.2) (.int .i64 t458)) (fun _ hk => hk.2) (.int .i64 t459)) (fun _ hk => hk.2) (.string t460)) (fun _ hk => hk.2) (.slice Ao48 t461.length co48)) (fun _ hk => hk.2) (.slice Ao49 t464.length co49)) (fun _ h_ => h_.1))) hb); have n4_ := Aside0.mk (Kd.R_below (by (with_reducible repeat (first | apply Kd.R_alloc | apply Kd.R_drewN | apply Kd.R_drew)); exact (Kd.R_mono (Kd.R_far (p := ⟨gb468, 9, none⟩) (Kd.R_far (p := ⟨gb468, 8, none⟩) (Kd.R_far (p := ⟨gb468, 7, none⟩) (Kd.R_far (p := ⟨gb468, 6, none⟩) (Kd.R_far (p := ⟨gb468, 5, none⟩) (Kd.R_far (p := ⟨gb468, 4, none⟩) (Kd.R_far (p := ⟨gb468, 3, none⟩) (Kd.R_far (p := ⟨gb468, 2, none⟩) (Kd.R_far (p := ⟨gb468, 1, none⟩) (Kd.R_far (p := ⟨gb468, 0, none⟩) (Kd.R_types HO463.out BK468.out (by decide)) (fun _ hk => hk.2) (.int .i64 t453)) (fun _ hk => hk.2) (.int .i64 t454)) (fun _ hk => hk.2) (.bool t455)) (fun _ hk => hk.2) (.int .i64 t456)) (fun _ hk => hk.2) (.int .i64 t457)) (fun _ hk => hk.2) (.int .i64 t458)) (fun _ hk => hk.2) (.int .i64 t459)) (fun _ hk => hk.2) (.string t460)) (fun _ hk => hk.2) (.slice Ao48 t461.length co48)) (fun _ hk => hk.2) (.slice Ao49 t464.length co49)) (fun _ h_ => h_.1))) hb); have n5_ := Aside0.mk (Kd.R_below (by (with_reducible repeat (first | apply Kd.R_alloc | apply Kd.R_drewN | apply Kd.R_drew)); exact (Kd.R_mono (Kd.R_far (p := ⟨gb468, 9, none⟩) (Kd.R_far (p := ⟨gb468, 8, none⟩) (Kd.R_far (p := ⟨gb468, 7, none⟩) (Kd.R_far (p := ⟨gb468, 6, none⟩) (Kd.R_far (p := ⟨gb468, 5, none⟩) (Kd.R_far (p := ⟨gb468, 4, none⟩) (Kd.R_far (p := ⟨gb468, 3, none⟩) (Kd.R_far (p := ⟨gb468, 2, none⟩) (Kd.R_far (p := ⟨gb468, 1, none⟩) (Kd.R_far (p := ⟨gb468, 0, none⟩) (Kd.R_types HO466.out BK468.out (by decide)) (fun _ hk => hk.2) (.int .i64 t453)) (fun _ hk => hk.2) (.int .i64 t454)) (fun _ hk => hk.2) (.bool t455)) (fun _ hk => hk.2) (.int .i64 t456)) (fun _ hk => hk.2) (.int .i64 t457)) (fun _ hk => hk.2) (.int .i64 t458)) (fun _ hk => hk.2) (.int .i64 t459)) (fun _ hk => hk.2) (.string t460)) (fun _ hk => hk.2) (.slice Ao48 t461.length co48)) (fun _ hk => hk.2) (.slice Ao49 t464.length co49)) (fun _ h_ => h_.1))) hb); have n6_ := Aside0.mk (blk_below (g := gb431) (o := .cells #[.int .i64 t416, .int .i64 t417, .bool t418, .int .i64 t419, .int .i64 t420, .int .i64 t421, .int .i64 t422, .string t423, .slice Ao8 t424.length co8, .slice Ao9 t427.length co9] 40 (0, 0)) (by (with_reducible repeat (first | refine blk_drewN ?_ _ | refine blk_drew ?_ | refine blk_alloc ?_ _)); refine blk_far ?_ NB431_468.out _; (with_reducible repeat (first | refine blk_drewN ?_ _ | refine blk_drew ?_ | refine blk_alloc ?_ _)); refine blk_far ?_ NB431_468.out _; (with_reducible repeat (first | refine blk_drewN ?_ _ | refine blk_drew ?_ | refine blk_alloc ?_ _)); refine blk_far ?_ NB431_468.out _; (with_reducible repeat (first | refine blk_drewN ?_ _ | refine blk_drew ?_ | refine blk_alloc ?_ _)); refine blk_far ?_ NB431_468.out _; (with_reducible repeat (first | refine blk_drewN ?_ _ | refine blk_drew ?_ | refine blk_alloc ?_ _)); refine blk_far ?_ NB431_468.out _; (with_reducible repeat (first | refine blk_drewN ?_ _ | refine blk_drew ?_ | refine blk_alloc ?_ _)); refine blk_far ?_ NB431_468.out _; (with_reducible repeat (first | refine blk_drewN ?_ _ | refine blk_drew ?_ | refine blk_alloc ?_ _)); refine blk_far ?_ NB431_468.out _; (with_reducible repeat (first | refine blk_drewN ?_ _ | refine blk_drew ?_ | refine blk_alloc ?_ _)); refine blk_far ?_ NB431_468.out _; (with_reducible repeat (first | refine blk_drewN ?_ _ | refine blk_drew ?_ | refine blk_alloc ?_ _)); refine blk_far ?_ NB431_468.out _; (with_reducible repeat (first | refine blk_drewN ?_ _ | refine blk_drew ?_ | refine blk_alloc ?_ _)); refine blk_far ?_ NB431_468.out _; (with_reducible repeat (first | refine blk_drewN ?_ _ | refine blk_drew ?_ | refine blk_alloc ?_ _)); exact BK431.out) hb); have n7_ := Aside0.mk (blk_below (g := gb447) (o := .cells #[.int .i64 t432, .int .i64 t433, .bool t434, .int .i64 t435, .int .i64 t436, .int .i64 t437, .int .i64 t438, .string t439, .slice Ao14 t440.length co14, .slice Ao15 t443.length co15] 40 (0, 0)) (by (with_reducible repeat (first | refine blk_drewN ?_ _ | refine blk_drew ?_ | refine blk_alloc ?_ _)); refine blk_far ?_ NB447_468.out _; (with_reducible repeat (first | refine blk_drewN ?_ _ | refine blk_drew ?_ | refine blk_alloc ?_ _)); refine blk_far ?_ NB447_468.out _; (with_reducible repeat (first | refine blk_drewN ?_ _ | refine blk_drew ?_ | refine blk_alloc ?_ _)); refine blk_far ?_ NB447_468.out _; (with_reducible repeat (first | refine blk_drewN ?_ _ | refine blk_drew ?_ | refine blk_alloc ?_ _)); refine blk_far ?_ NB447_468.out _; (with_reducible repeat (first | refine blk_drewN ?_ _ | refine blk_drew ?_ | refine blk_alloc ?_ _)); refine blk_far ?_ NB447_468.out _; (with_reducible repeat (first | refine blk_drewN ?_ _ | refine blk_drew ?_ | refine blk_alloc ?_ _)); refine blk_far ?_ NB447_468.out _; (with_reducible repeat (first | refine blk_drewN ?_ _ | refine blk_drew ?_ | refine blk_alloc ?_ _)); refine blk_far ?_ NB447_468.out _; (with_reducible repeat (first | refine blk_drewN ?_ _ | refine blk_drew ?_ | refine blk_alloc ?_ _)); refine blk_far ?_ NB447_468.out _; (with_reducible repeat (first | refine blk_drewN ?_ _ | refine blk_drew ?_ | refine blk_alloc ?_ _)); refine blk_far ?_ NB447_468.out _; (with_reducible repeat (first | refine blk_drewN ?_ _ | refine blk_drew ?_ | refine blk_alloc ?_ _)); refine blk_far ?_ NB447_468.out _; (with_reducible repeat (first | refine blk_drewN ?_ _ | refine blk_drew ?_ | refine blk_alloc ?_ _)); exact BK447.out) hb); have n8_ := Aside0.mk (blk_below (g := gb468) (o := .cells #[.int .i64 t453, .int .i64 t454, .bool t455, .int .i64 t456, .int .i64 t457, .int .i64 t458, .int .i64 t459, .string t460, .slice Ao48 t461.length co48, .slice Ao49 t464.length co49] 40 (0, 0)) (by (with_reducible repeat (first | refine blk_drewN ?_ _ | refine blk_drew ?_ | refine blk_alloc ?_ _)); refine blk_put (cs := #[.int .i64 t453, .int .i64 t454, .bool t455, .int .i64 t456, .int .i64 t457, .int .i64 t458, .int .i64 t459, .string t460, .slice Ao48 t461.length co48, .slice none 0 0]) ?_ 9 _ rfl; (with_reducible repeat (first | refine blk_drewN ?_ _ | refine blk_drew ?_ | refine blk_alloc ?_ _)); refine blk_put (cs := #[.int .i64 t453, .int .i64 t454, .bool t455, .int .i64 t456, .int .i64 t457, .int .i64 t458, .int .i64 t459, .string t460, .slice none 0 0, .slice none 0 0]) ?_ 8 _ rfl; (with_reducible repeat (first | refine blk_drewN ?_ _ | refine blk_drew ?_ | refine blk_alloc ?_ _)); refine blk_put (cs := #[.int .i64 t453, .int .i64 t454, .bool t455, .int .i64 t456, .int .i64 t457, .int .i64 t458, .int .i64 t459, .string (⟨#[]⟩ : ByteArray), .slice none 0 0, .slice none 0 0]) ?_ 7 _ rfl; (with_reducible repeat (first | refine blk_drewN ?_ _ | refine blk_drew ?_ | refine blk_alloc ?_ _)); refine blk_put (cs := #[.int .i64 t453, .int .i64 t454, .bool t455, .int .i64 t456, .int .i64 t457, .int .i64 t458, .int .i64 0, .string (⟨#[]⟩ : ByteArray), .slice none 0 0, .slice none 0 0]) ?_ 6 _ rfl; (with_reducible repeat (first | refine blk_drewN ?_ _ | refine blk_drew ?_ | refine blk_alloc ?_ _)); refine blk_put (cs := #[.int .i64 t453, .int .i64 t454, .bool t455, .int .i64 t456, .int .i64 t457, .int .i64 0, .int .i64 0, .string (⟨#[]⟩ : ByteArray), .slice none 0 0, .slice none 0 0]) ?_ 5 _ rfl; (with_reducible repeat (first | refine blk_drewN ?_ _ | refine blk_drew ?_ | refine blk_alloc ?_ _)); refine blk_put (cs := #[.int .i64 t453, .int .i64 t454, .bool t455, .int .i64 t456, .int .i64 0, .int .i64 0, .int .i64 0, .string (⟨#[]⟩ : ByteArray), .slice none 0 0, .slice none 0 0]) ?_ 4 _ rfl; (with_reducible repeat (first | refine blk_drewN ?_ _ | refine blk_drew ?_ | refine blk_alloc ?_ _)); refine blk_put (cs := #[.int .i64 t453, .int .i64 t454, .bool t455, .int .i64 0, .int .i64 0, .int .i64 0, .int .i64 0, .string (⟨#[]⟩ : ByteArray), .slice none 0 0, .slice none 0 0]) ?_ 3 _ rfl; (with_reducible repeat (first | refine blk_drewN ?_ _ | refine blk_drew ?_ | refine blk_alloc ?_ _)); refine blk_put (cs := #[.int .i64 t453, .int .i64 t454, .bool false, .int .i64 0, .int .i64 0, .int .i64 0, .int .i64 0, .string (⟨#[]⟩ : ByteArray), .slice none 0 0, .slice none 0 0]) ?_ 2 _ rfl; (with_reducible repeat (first | refine blk_drewN ?_ _ | refine blk_drew ?_ | refine blk_alloc ?_ _)); refine blk_put (cs := #[.int .i64 t453, .int .i64 0, .bool false, .int .i64 0, .int .i64 0, .int .i64 0, .int .i64 0, .string (⟨#[]⟩ : ByteArray), .slice none 0 0, .slice none 0 0]) ?_ 1 _ rfl; (with_reducible repeat (first | refine blk_drewN ?_ _ | refine blk_drew ?_ | refine blk_alloc ?_ _)); refine blk_put (cs := #[.int .i64 0, .int .i64 0, .bool false, .int .i64 0, .int .i64 0, .int .i64 0, .int .i64 0, .string (⟨#[]⟩ : ByteArray), .slice none 0 0, .slice none 0 0]) ?_ 0 _ rfl; (with_reducible repeat (first | refine blk_drewN ?_ _ | refine blk_drew ?_ | refine blk_alloc ?_ _)); exact BK468.out) hb); have n9_ := Aside0.mk (below_step (by repeat (first | (with_reducible first | exact HB.out | apply below_alloc | apply pw_below_drewN | apply below_drew1 | refine below_set ?_ GE431.out | refine below_set ?_ GE447.out | refine below_set ?_ GE468.out) | exact HB.out)) hb); clear HO_432008; clear HO_432009; clear HO_448008; clear HO_448009; clear HO463; clear HO466; clear BK431; clear BK447; clear BK468; clear HB; have HO_432008 := n0_; have HO_432009 := n1_; have HO_448008 := n2_; have HO_448009 := n3_; have HO463 := n4_; have HO466 := n5_; have BK431 := n6_; have BK447 := n7_; have BK468 := n8_; have HB := n9_; clear n0_ n1_ n2_ n3_ n4_ n5_ n6_ n7_ n8_ n9_; (try clear hb); (try clear hb2); (try clear hk); (try clear hi)))
                go_meet
                case rel => exact ⟨_, (true), (by first | rfl | (simp; done) | (simp [*]; done)), H', ⟨by have := HJ3.out; first | omega | exact Nat.le_refl _⟩, ⟨by (with_reducible repeat (first | apply Kd.R_alloc | apply Kd.R_drewN | apply Kd.R_drew)); exact HO_432008.out⟩, ⟨by (with_reducible repeat (first | apply Kd.R_alloc | apply Kd.R_drewN | apply Kd.R_drew)); exact HO_432009.out⟩, ⟨by (with_reducible repeat (first | apply Kd.R_alloc | apply Kd.R_drewN | apply Kd.R_drew)); exact HO_448008.out⟩, ⟨by (with_reducible repeat (first | apply Kd.R_alloc | apply Kd.R_drewN | apply Kd.R_drew)); exact HO_448009.out⟩, ⟨by (with_reducible repeat (first | apply Kd.R_alloc | apply Kd.R_drewN | apply Kd.R_drew)); exact Kd.R_mono HO463.out (fun _ hk => ⟨hk.1.2, hk.2⟩)⟩, ⟨by (with_reducible repeat (first | apply Kd.R_alloc | apply Kd.R_drewN | apply Kd.R_drew)); exact Kd.R_mono HO466.out (fun _ hk => ⟨hk.1.2, hk.2⟩)⟩, ⟨by (with_reducible repeat (first | refine blk_drewN ?_ _ | refine blk_drew ?_ | refine blk_alloc ?_ _)); exact BK431.out⟩, ⟨by (with_reducible repeat (first | refine blk_drewN ?_ _ | refine blk_drew ?_ | refine blk_alloc ?_ _)); exact BK447.out⟩, ⟨by (with_reducible repeat (first | refine blk_drewN ?_ _ | refine blk_drew ?_ | refine blk_alloc ?_ _)); exact BK468.out⟩, ⟨by repeat (first | (with_reducible first | exact HB.out | apply below_alloc | apply pw_below_drewN | apply below_drew1 | refine below_set ?_ GE431.out | refine below_set ?_ GE447.out | refine below_set ?_ GE468.out) | exact HB.out)⟩⟩
            case rest =>
              clear HC37
              try clear c1
              try clear c2
              try clear p2
              try clear c3
              try clear c4
              try clear c5
              try clear c6
              try clear c12
              try clear c17
              try clear c18
              try clear c22
              try clear c26
              try clear c27
              try clear c28
              try clear c29
              try clear c29b0
              try clear c30
              try clear c35
              try clear c35b0
              try clear c35b1
              try clear c38
              try clear c45
              try clear c46
              try clear c51
              try clear c52
              try clear c53
              try clear c55
              try clear c58
              try clear c59
              try clear c61
              try clear hcz13_0
              try clear hcz13_1
              try clear hcz13_2
              try clear hcz13_3
              try clear hcz13_4
              try clear hcz13_5
              try clear hcz13_6
              try clear hcz13_7
              try clear hcz13_8
              try clear hcz13_9
              try clear hcz19_0
              try clear hcz19_1
              try clear hcz19_2
              try clear hcz19_3
              try clear hcz19_4
              try clear hcz19_5
              try clear hcz19_6
              try clear hcz19_7
              try clear hcz19_8
              try clear hcz19_9
              try clear hcz20_0
              try clear hcz20_1
              try clear hcz20_2
              try clear hcz20_3
              try clear hcz20_4
              try clear hcz20_5
              try clear hcz20_6
              try clear hcz20_7
              try clear hcz20_8
              try clear hcz20_9
              try clear hcz23_0
              try clear hcz23_1
              try clear hcz23_2
              try clear hcz23_3
              try clear hcz23_4
              try clear hcz23_5
              try clear hcz23_6
              try clear hcz23_7
              try clear hcz23_8
              try clear hcz23_9
              try clear hcz24_0
              try clear hcz24_1
              try clear hcz24_2
              try clear hcz24_3
              try clear hcz24_4
              try clear hcz24_5
              try clear hcz24_6
              try clear hcz24_7
              try clear hcz24_8
              try clear hcz24_9
              try clear hcz31_0
              try clear hcz31_1
              try clear hcz31_2
              try clear hcz31_3
              try clear hcz31_4
              try clear hcz31_5
              try clear hcz31_6
              try clear hcz31_7
              try clear hcz31_8
              try clear hcz31_9
              try clear hcz33_0
              try clear hcz33_1
              try clear hcz33_2
              try clear hcz33_3
              try clear hcz33_4
              try clear hcz33_5
              try clear hcz33_6
              try clear hcz33_7
              try clear hcz33_8
              try clear hcz33_9
              try clear hcz39_0
              try clear hcz39_1
              try clear hcz39_2
              try clear hcz39_3
              try clear hcz39_4
              try clear hcz39_5
              try clear hcz39_6
              try clear hcz39_7
              try clear hcz39_8
              try clear hcz39_9
              try clear hcz41_0
              try clear hcz41_1
              try clear hcz41_2
              try clear hcz41_3
              try clear hcz41_4
              try clear hcz41_5
              try clear hcz41_6
              try clear hcz41_7
              try clear hcz41_8
              try clear hcz41_9
              try clear hcz47_0
              try clear hcz47_1
              try clear hcz47_2
              try clear hcz47_3
              try clear hcz47_4
              try clear hcz47_5
              try clear hcz47_6
              try clear hcz47_7
              try clear hcz47_8
              try clear hcz47_9
              try clear hcz54_0
              try clear hcz54_1
              try clear hcz54_2
              try clear hcz54_3
              try clear hcz54_4
              try clear hcz54_5
              try clear hcz54_6
              try clear hcz54_7
              try clear hcz54_8
              try clear hcz54_9
              try clear hcz56_0
              try clear hcz56_1
              try clear hcz56_2
              try clear hcz56_3
              try clear hcz56_4
              try clear hcz56_5
              try clear hcz56_6
              try clear hcz56_7
              try clear hcz56_8
              try clear hcz56_9
              try clear hcz60_0
              try clear hcz60_1
              try clear hcz60_2
              try clear hcz60_3
              try clear hcz60_4
              try clear hcz60_5
              try clear hcz60_6
              try clear hcz60_7
              try clear hcz60_8
              try clear hcz60_9
              try clear hcz62_0
              try clear hcz62_1
              try clear hcz62_2
              try clear hcz62_3
              try clear hcz62_4
              try clear hcz62_5
              try clear hcz62_6
              try clear hcz62_7
              try clear hcz62_8
              try clear hcz62_9
              try clear hcz7_0
              try clear hcz7_1
              try clear hcz7_2
              try clear hcz7_3
              try clear hcz7_4
              try clear hcz7_5
              try clear hcz7_6
              try clear hcz7_7
              try clear hcz7_8
              try clear hcz7_9
              try clear hfz13_0
              try clear hfz13_1
              try clear hfz13_2
              try clear hfz13_3
              try clear hfz13_4
              try clear hfz13_5
              try clear hfz13_6
              try clear hfz13_7
              try clear hfz13_8
              try clear hfz13_9
              try clear hfz19_0
              try clear hfz19_1
              try clear hfz19_2
              try clear hfz19_3
              try clear hfz19_4
              try clear hfz19_5
              try clear hfz19_6
              try clear hfz19_7
              try clear hfz19_8
              try clear hfz19_9
              try clear hfz20_0
              try clear hfz20_1
              try clear hfz20_2
              try clear hfz20_3
              try clear hfz20_4
              try clear hfz20_5
              try clear hfz20_6
              try clear hfz20_7
              try clear hfz20_8
              try clear hfz20_9
              try clear hfz23_0
              try clear hfz23_1
              try clear hfz23_2
              try clear hfz23_3
              try clear hfz23_4
              try clear hfz23_5
              try clear hfz23_6
              try clear hfz23_7
              try clear hfz23_8
              try clear hfz23_9
              try clear hfz24_0
              try clear hfz24_1
              try clear hfz24_2
              try clear hfz24_3
              try clear hfz24_4
              try clear hfz24_5
              try clear hfz24_6
              try clear hfz24_7
              try clear hfz24_8
              try clear hfz24_9
              try clear hfz31_0
              try clear hfz31_1
              try clear hfz31_2
              try clear hfz31_3
              try clear hfz31_4
              try clear hfz31_5
              try clear hfz31_6
              try clear hfz31_7
              try clear hfz31_8
              try clear hfz31_9
              try clear hfz33_0
              try clear hfz33_1
              try clear hfz33_2
              try clear hfz33_3
              try clear hfz33_4
              try clear hfz33_5
              try clear hfz33_6
              try clear hfz33_7
              try clear hfz33_8
              try clear hfz33_9
              try clear hfz39_0
              try clear hfz39_1
              try clear hfz39_2
              try clear hfz39_3
              try clear hfz39_4
              try clear hfz39_5
              try clear hfz39_6
              try clear hfz39_7
              try clear hfz39_8
              try clear hfz39_9
              try clear hfz41_0
              try clear hfz41_1
              try clear hfz41_2
              try clear hfz41_3
              try clear hfz41_4
              try clear hfz41_5
              try clear hfz41_6
              try clear hfz41_7
              try clear hfz41_8
              try clear hfz41_9
              try clear hfz47_0
              try clear hfz47_1
              try clear hfz47_2
              try clear hfz47_3
              try clear hfz47_4
              try clear hfz47_5
              try clear hfz47_6
              try clear hfz47_7
              try clear hfz47_8
              try clear hfz47_9
              try clear hfz54_0
              try clear hfz54_1
              try clear hfz54_2
              try clear hfz54_3
              try clear hfz54_4
              try clear hfz54_5
              try clear hfz54_6
              try clear hfz54_7
              try clear hfz54_8
              try clear hfz54_9
              try clear hfz56_0
              try clear hfz56_1
              try clear hfz56_2
              try clear hfz56_3
              try clear hfz56_4
              try clear hfz56_5
              try clear hfz56_6
              try clear hfz56_7
              try clear hfz56_8
              try clear hfz56_9
              try clear hfz60_0
              try clear hfz60_1
              try clear hfz60_2
              try clear hfz60_3
              try clear hfz60_4
              try clear hfz60_5
              try clear hfz60_6
              try clear hfz60_7
              try clear hfz60_8
              try clear hfz60_9
              try clear hfz62_0
              try clear hfz62_1
              try clear hfz62_2
              try clear hfz62_3
              try clear hfz62_4
              try clear hfz62_5
              try clear hfz62_6
              try clear hfz62_7
              try clear hfz62_8
              try clear hfz62_9
              try clear hfz7_0
              try clear hfz7_1
              try clear hfz7_2
              try clear hfz7_3
              try clear hfz7_4
              try clear hfz7_5
              try clear hfz7_6
              try clear hfz7_7
              try clear hfz7_8
              try clear hfz7_9
              try clear p2
              obtain ⟨kq, x54_36, rfl, HA, HJ36, HO_432008, HO_432009, HO_448008, HO_448009, HO_469008, HO_469009, BK431, BK447, BK468, HB⟩ := hcut
              have hl448008_36 := (Kd.R_reads' HO_448008.out).1
              rw [hl448008_36] at HO_448008
              (try simp only [hl448008_36])
              (try simp only [hl448008_36] at BK431)
              (try simp only [hl448008_36] at BK447)
              (try simp only [hl448008_36] at BK468)
              (try simp only [hl448008_36] at HO_432008)
              (try simp only [hl448008_36] at HO_432009)
              (try simp only [hl448008_36] at HO_448009)
              (try simp only [hl448008_36] at HO_469008)
              (try simp only [hl448008_36] at HO_469009)
              have hl448009_36 := (Kd.R_reads' HO_448009.out).1
              rw [hl448009_36] at HO_448009
              (try simp only [hl448009_36])
              (try simp only [hl448009_36] at BK431)
              (try simp only [hl448009_36] at BK447)
              (try simp only [hl448009_36] at BK468)
              (try simp only [hl448009_36] at HO_432008)
              (try simp only [hl448009_36] at HO_432009)
              (try simp only [hl448009_36] at HO_448008)
              (try simp only [hl448009_36] at HO_469008)
              (try simp only [hl448009_36] at HO_469009)
              cases kq with
              | zero => exact absurd HA.out (by simp [laws_FnExactNewClient.j1])
              | succ kj36 =>
                have H := HA.out
                clear HA
                simp only [laws_FnExactNewClient.j1] at H
                by_cases c64 : x54_36 = true
                · subst c64
                  have H1 : (some false) = some r := by rw [if_pos rfl] at H; exact H
                  clear H
                  have H := H1
                  clear H1
                  obtain rfl := Option.some.inj H
                  go_wp2
                  go_ret
                  exact ⟨by first | rfl | (simp [errW_none, errW_some] <;> rfl) | (simp [*, errW_none, errW_some] <;> rfl) | (simp [mp_beq_nil, mp_bne_nil]; done) | (simp [*, mp_beq_nil, mp_bne_nil]; done), by repeat (first | (with_reducible first | exact HB.out | apply below_alloc | apply pw_below_drewN | apply below_drew1 | refine below_set ?_ GE431.out | refine below_set ?_ GE447.out | refine below_set ?_ GE468.out) | exact HB.out)⟩
                · replace c64 := Bool.eq_false_iff.mpr c64
                  subst c64
                  have H1 : ((laws_heldClient.f kj36 t432 t433 t434 t435 t436 t437 t438 t439 t450 t451 1).bind fun t470 => (if t470 < 0 then (some false) else (if t470 = t449 then (some true) else (some false)))) = some r := by rw [if_neg (show ¬ (false = true) by decide)] at H; exact H
                  clear H
                  have H := H1
                  clear H1
                  replace H := Option.bind_eq_some_iff.mp H
                  obtain ⟨t470, A650, H⟩ := H
                  replace H : (if t470 < 0 then (some false) else (if t470 = t449 then (some true) else (some false))) = some r := H
                  have A65 := Aside0.mk A650
                  clear A650
                  by_cases c66 : t470 < 0
                  · rw [if_pos c66] at H
                    have c66b0 : decide (t470 < 0) = true := decide_eq_true c66
                    clear c66
                    obtain rfl := Option.some.inj H
                    have hnb67 := NB447_431.out
                    have hnc67 := NB431_447.out
                    have hnb68 := NB447_468.out
                    have hnc68 := NB468_447.out
                    have hcz69_0 : wc.cell? ⟨gb447, 0, none⟩ = some (.int .i64 t432) := (blk_cell BK447.out 0).trans rfl
                    have hcz69_1 : wc.cell? ⟨gb447, 1, none⟩ = some (.int .i64 t433) := (blk_cell BK447.out 1).trans rfl
                    have hcz69_2 : wc.cell? ⟨gb447, 2, none⟩ = some (.bool t434) := (blk_cell BK447.out 2).trans rfl
                    have hcz69_3 : wc.cell? ⟨gb447, 3, none⟩ = some (.int .i64 t435) := (blk_cell BK447.out 3).trans rfl
                    have hcz69_4 : wc.cell? ⟨gb447, 4, none⟩ = some (.int .i64 t436) := (blk_cell BK447.out 4).trans rfl
                    have hcz69_5 : wc.cell? ⟨gb447, 5, none⟩ = some (.int .i64 t437) := (blk_cell BK447.out 5).trans rfl
                    have hcz69_6 : wc.cell? ⟨gb447, 6, none⟩ = some (.int .i64 t438) := (blk_cell BK447.out 6).trans rfl
                    have hcz69_7 : wc.cell? ⟨gb447, 7, none⟩ = some (.string t439) := (blk_cell BK447.out 7).trans rfl
                    have hcz69_8 : wc.cell? ⟨gb447, 8, none⟩ = some (.slice Ao14 t450.length co14) := (blk_cell BK447.out 8).trans rfl
                    have hcz69_9 : wc.cell? ⟨gb447, 9, none⟩ = some (.slice Ao15 t451.length co15) := (blk_cell BK447.out 9).trans rfl
                    have hfz69_0 := blk_frozen BK447.out 0
                    have hfz69_1 := blk_frozen BK447.out 1
                    have hfz69_2 := blk_frozen BK447.out 2
                    have hfz69_3 := blk_frozen BK447.out 3
                    have hfz69_4 := blk_frozen BK447.out 4
                    have hfz69_5 := blk_frozen BK447.out 5
                    have hfz69_6 := blk_frozen BK447.out 6
                    have hfz69_7 := blk_frozen BK447.out 7
                    have hfz69_8 := blk_frozen BK447.out 8
                    have hfz69_9 := blk_frozen BK447.out 9
                    go_wp2_with (first | ((with_reducible refine gate_callee (f := 30) rfl ?_); refine goesL_ (some 57) rfl rfl Try.func30 (by kernel_rfl) rfl #[.agg #[.int .i64 t432, .int .i64 t433, .bool t434, .int .i64 t435, .int .i64 t436, .int .i64 t437, .int .i64 t438, .string t439, .slice Ao14 t450.length co14, .slice Ao15 t451.length co15], .int .i64 1] rfl (by (try simp only [List.map_toArray, List.map_cons, List.map_nil]); first | done | rfl | (simp only [List.length_drop, List.length_take]; rfl)) ?_; (with_reducible refine (laws_heldClient.calls kj36 t432 t433 t434 t435 t436 t437 t438 t439 _ _ t450 _ _ t451 1 t470 _ ?side1 ?side2 ?side3 ?side4 A65.out).mono ?_); (case side1 => repeat (first | exact (Kd.R_reads' HO_448008.out).2.2 | (with_reducible refine Kd.C_alloc ?_ _) | (with_reducible refine Kd.C_drewN ?_ _) | (with_reducible refine Kd.C_drew ?_))); (case side2 => exact (Kd.R_reads' HO_448008.out).2.1); (case side3 => repeat (first | exact (Kd.R_reads' HO_448009.out).2.2 | (with_reducible refine Kd.C_alloc ?_ _) | (with_reducible refine Kd.C_drewN ?_ _) | (with_reducible refine Kd.C_drew ?_))); (case side4 => exact (Kd.R_reads' HO_448009.out).2.1); rintro e w70 ⟨rfl, hb⟩; refine ⟨_, rfl, ?_⟩; have n0_ := Aside0.mk (Kd.R_below (by (with_reducible repeat (first | apply Kd.R_alloc | apply Kd.R_drewN | apply Kd.R_drew)); exact HO_432008.out) hb); have n1_ := Aside0.mk (Kd.R_below (by (with_reducible repeat (first | apply Kd.R_alloc | apply Kd.R_drewN | apply Kd.R_drew)); exact HO_432009.out) hb); have n2_ := Aside0.mk (Kd.R_below (by (with_reducible repeat (first | apply Kd.R_alloc | apply Kd.R_drewN | apply Kd.R_drew)); exact HO_448008.out) hb); have n3_ := Aside0.mk (Kd.R_below (by (with_reducible repeat (first | apply Kd.R_alloc | apply Kd.R_drewN | apply Kd.R_drew)); exact HO_448009.out) hb); have n4_ := Aside0.mk (Kd.R_below (by (with_reducible repeat (first | apply Kd.R_alloc | apply Kd.R_drewN | apply Kd.R_drew)); exact HO_469008.out) hb); have n5_ := Aside0.mk (Kd.R_below (by (with_reducible repeat (first | apply Kd.R_alloc | apply Kd.R_drewN | apply Kd.R_drew)); exact HO_469009.out) hb); have n6_ := Aside0.mk (blk_below (g := gb431) (o := .cells #[.int .i64 t416, .int .i64 t417, .bool t418, .int .i64 t419, .int .i64 t420, .int .i64 t421, .int .i64 t422, .string t423, .slice Ao8 t424.length co8, .slice Ao9 t427.length co9] 40 (0, 0)) (by (with_reducible repeat (first | refine blk_drewN ?_ _ | refine blk_drew ?_ | refine blk_alloc ?_ _)); exact BK431.out) hb); have n7_ := Aside0.mk (blk_below (g := gb447) (o := .cells #[.int .i64 t432, .int .i64 t433, .bool t434, .int .i64 t435, .int .i64 t436, .int .i64 t437, .int .i64 t438, .string t439, .slice Ao14 t450.length co14, .slice Ao15 t451.length co15] 40 (0, 0)) (by (with_reducible repeat (first | refine blk_drewN ?_ _ | refine blk_drew ?_ | refine blk_alloc ?_ _)); exact BK447.out) hb); have n8_ := Aside0.mk (blk_below (g := gb468) (o := .cells #[.int .i64 t453, .int .i64 t454, .bool t455, .int .i64 t456, .int .i64 t457, .int .i64 t458, .int .i64 t459, .string t460, .slice Ao48 t461.length co48, .slice Ao49 t464.length co49] 40 (0, 0)) (by (with_reducible repeat (first | refine blk_drewN ?_ _ | refine blk_drew ?_ | refine blk_alloc ?_ _)); exact BK468.out) hb); have n9_ := Aside0.mk (below_step (by repeat (first | (with_reducible first | exact HB.out | apply below_alloc | apply pw_below_drewN | apply below_drew1 | refine below_set ?_ GE431.out | refine below_set ?_ GE447.out | refine below_set ?_ GE468.out) | exact HB.out)) hb); clear HO_432008; clear HO_432009; clear HO_448008; clear HO_448009; clear HO_469008; clear HO_469009; clear BK431; clear BK447; clear BK468; clear HB; have HO_432008 := n0_; have HO_432009 := n1_; have HO_448008 := n2_; have HO_448009 := n3_; have HO_469008 := n4_; have HO_469009 := n5_; have BK431 := n6_; have BK447 := n7_; have BK468 := n8_; have HB := n9_; clear n0_ n1_ n2_ n3_ n4_ n5_ n6_ n7_ n8_ n9_; (try clear hb); (try clear hb2); (try clear hk); (try clear hi)))
                    go_ret
                    exact ⟨by first | rfl | (simp [errW_none, errW_some] <;> rfl) | (simp [*, errW_none, errW_some] <;> rfl) | (simp [mp_beq_nil, mp_bne_nil]; done) | (simp [*, mp_beq_nil, mp_bne_nil]; done), by repeat (first | (with_reducible first | exact HB.out | apply below_alloc | apply pw_below_drewN | apply below_drew1 | refine below_set ?_ GE431.out | refine below_set ?_ GE447.out | refine below_set ?_ GE468.out) | exact HB.out)⟩
                  · rw [if_neg c66] at H
                    have c66b0 : decide (t470 < 0) = false := decide_eq_false c66
                    clear c66
                    by_cases c71 : t470 = t449
                    · rw [if_pos c71] at H
                      have c71b0 : (t470 == t449) = true := beq_iff_eq.mpr c71
                      have c71b1 : (t470 != t449) = false := bne_eq_false_iff_eq.mpr c71
                      clear c71
                      obtain rfl := Option.some.inj H
                      have hnb72 := NB447_431.out
                      have hnc72 := NB431_447.out
                      have hnb73 := NB447_468.out
                      have hnc73 := NB468_447.out
                      have hcz74_0 : wc.cell? ⟨gb447, 0, none⟩ = some (.int .i64 t432) := (blk_cell BK447.out 0).trans rfl
                      have hcz74_1 : wc.cell? ⟨gb447, 1, none⟩ = some (.int .i64 t433) := (blk_cell BK447.out 1).trans rfl
                      have hcz74_2 : wc.cell? ⟨gb447, 2, none⟩ = some (.bool t434) := (blk_cell BK447.out 2).trans rfl
                      have hcz74_3 : wc.cell? ⟨gb447, 3, none⟩ = some (.int .i64 t435) := (blk_cell BK447.out 3).trans rfl
                      have hcz74_4 : wc.cell? ⟨gb447, 4, none⟩ = some (.int .i64 t436) := (blk_cell BK447.out 4).trans rfl
                      have hcz74_5 : wc.cell? ⟨gb447, 5, none⟩ = some (.int .i64 t437) := (blk_cell BK447.out 5).trans rfl
                      have hcz74_6 : wc.cell? ⟨gb447, 6, none⟩ = some (.int .i64 t438) := (blk_cell BK447.out 6).trans rfl
                      have hcz74_7 : wc.cell? ⟨gb447, 7, none⟩ = some (.string t439) := (blk_cell BK447.out 7).trans rfl
                      have hcz74_8 : wc.cell? ⟨gb447, 8, none⟩ = some (.slice Ao14 t450.length co14) := (blk_cell BK447.out 8).trans rfl
                      have hcz74_9 : wc.cell? ⟨gb447, 9, none⟩ = some (.slice Ao15 t451.length co15) := (blk_cell BK447.out 9).trans rfl
                      have hfz74_0 := blk_frozen BK447.out 0
                      have hfz74_1 := blk_frozen BK447.out 1
                      have hfz74_2 := blk_frozen BK447.out 2
                      have hfz74_3 := blk_frozen BK447.out 3
                      have hfz74_4 := blk_frozen BK447.out 4
                      have hfz74_5 := blk_frozen BK447.out 5
                      have hfz74_6 := blk_frozen BK447.out 6
                      have hfz74_7 := blk_frozen BK447.out 7
                      have hfz74_8 := blk_frozen BK447.out 8
                      have hfz74_9 := blk_frozen BK447.out 9
                      go_wp2_with (first | ((with_reducible refine gate_callee (f := 30) rfl ?_); refine goesL_ (some 57) rfl rfl Try.func30 (by kernel_rfl) rfl #[.agg #[.int .i64 t432, .int .i64 t433, .bool t434, .int .i64 t435, .int .i64 t436, .int .i64 t437, .int .i64 t438, .string t439, .slice Ao14 t450.length co14, .slice Ao15 t451.length co15], .int .i64 1] rfl (by (try simp only [List.map_toArray, List.map_cons, List.map_nil]); first | done | rfl | (simp only [List.length_drop, List.length_take]; rfl)) ?_; (with_reducible refine (laws_heldClient.calls kj36 t432 t433 t434 t435 t436 t437 t438 t439 _ _ t450 _ _ t451 1 t470 _ ?side1 ?side2 ?side3 ?side4 A65.out).mono ?_); (case side1 => repeat (first | exact (Kd.R_reads' HO_448008.out).2.2 | (with_reducible refine Kd.C_alloc ?_ _) | (with_reducible refine Kd.C_drewN ?_ _) | (with_reducible refine Kd.C_drew ?_))); (case side2 => exact (Kd.R_reads' HO_448008.out).2.1); (case side3 => repeat (first | exact (Kd.R_reads' HO_448009.out).2.2 | (with_reducible refine Kd.C_alloc ?_ _) | (with_reducible refine Kd.C_drewN ?_ _) | (with_reducible refine Kd.C_drew ?_))); (case side4 => exact (Kd.R_reads' HO_448009.out).2.1); rintro e w75 ⟨rfl, hb⟩; refine ⟨_, rfl, ?_⟩; have n0_ := Aside0.mk (Kd.R_below (by (with_reducible repeat (first | apply Kd.R_alloc | apply Kd.R_drewN | apply Kd.R_drew)); exact HO_432008.out) hb); have n1_ := Aside0.mk (Kd.R_below (by (with_reducible repeat (first | apply Kd.R_alloc | apply Kd.R_drewN | apply Kd.R_drew)); exact HO_432009.out) hb); have n2_ := Aside0.mk (Kd.R_below (by (with_reducible repeat (first | apply Kd.R_alloc | apply Kd.R_drewN | apply Kd.R_drew)); exact HO_448008.out) hb); have n3_ := Aside0.mk (Kd.R_below (by (with_reducible repeat (first | apply Kd.R_alloc | apply Kd.R_drewN | apply Kd.R_drew)); exact HO_448009.out) hb); have n4_ := Aside0.mk (Kd.R_below (by (with_reducible repeat (first | apply Kd.R_alloc | apply Kd.R_drewN | apply Kd.R_drew)); exact HO_469008.out) hb); have n5_ := Aside0.mk (Kd.R_below (by (with_reducible repeat (first | apply Kd.R_alloc | apply Kd.R_drewN | apply Kd.R_drew)); exact HO_469009.out) hb); have n6_ := Aside0.mk (blk_below (g := gb431) (o := .cells #[.int .i64 t416, .int .i64 t417, .bool t418, .int .i64 t419, .int .i64 t420, .int .i64 t421, .int .i64 t422, .string t423, .slice Ao8 t424.length co8, .slice Ao9 t427.length co9] 40 (0, 0)) (by (with_reducible repeat (first | refine blk_drewN ?_ _ | refine blk_drew ?_ | refine blk_alloc ?_ _)); exact BK431.out) hb); have n7_ := Aside0.mk (blk_below (g := gb447) (o := .cells #[.int .i64 t432, .int .i64 t433, .bool t434, .int .i64 t435, .int .i64 t436, .int .i64 t437, .int .i64 t438, .string t439, .slice Ao14 t450.length co14, .slice Ao15 t451.length co15] 40 (0, 0)) (by (with_reducible repeat (first | refine blk_drewN ?_ _ | refine blk_drew ?_ | refine blk_alloc ?_ _)); exact BK447.out) hb); have n8_ := Aside0.mk (blk_below (g := gb468) (o := .cells #[.int .i64 t453, .int .i64 t454, .bool t455, .int .i64 t456, .int .i64 t457, .int .i64 t458, .int .i64 t459, .string t460, .slice Ao48 t461.length co48, .slice Ao49 t464.length co49] 40 (0, 0)) (by (with_reducible repeat (first | refine blk_drewN ?_ _ | refine blk_drew ?_ | refine blk_alloc ?_ _)); exact BK468.out) hb); have n9_ := Aside0.mk (below_step (by repeat (first | (with_reducible first | exact HB.out | apply below_alloc | apply pw_below_drewN | apply below_drew1 | refine below_set ?_ GE431.out | refine below_set ?_ GE447.out | refine below_set ?_ GE468.out) | exact HB.out)) hb); clear HO_432008; clear HO_432009; clear HO_448008; clear HO_448009; clear HO_469008; clear HO_469009; clear BK431; clear BK447; clear BK468; clear HB; have HO_432008 := n0_; have HO_432009 := n1_; have HO_448008 := n2_; have HO_448009 := n3_; have HO_469008 := n4_; have HO_469009 := n5_; have BK431 := n6_; have BK447 := n7_; have BK468 := n8_; have HB := n9_; clear n0_ n1_ n2_ n3_ n4_ n5_ n6_ n7_ n8_ n9_; (try clear hb); (try clear hb2); (try clear hk); (try clear hi)))
                      go_ret
                      exact ⟨by first | rfl | (simp [errW_none, errW_some] <;> rfl) | (simp [*, errW_none, errW_some] <;> rfl) | (simp [mp_beq_nil, mp_bne_nil]; done) | (simp [*, mp_beq_nil, mp_bne_nil]; done), by repeat (first | (with_reducible first | exact HB.out | apply below_alloc | apply pw_below_drewN | apply below_drew1 | refine below_set ?_ GE431.out | refine below_set ?_ GE447.out | refine below_set ?_ GE468.out) | exact HB.out)⟩
                    · rw [if_neg c71] at H
                      have c71b0 : (t470 == t449) = false := beq_eq_false_iff_ne.mpr c71
                      have c71b1 : (t470 != t449) = true := bne_iff_ne.mpr c71
                      obtain rfl := Option.some.inj H
                      have hnb76 := NB447_431.out
                      have hnc76 := NB431_447.out
                      have hnb77 := NB447_468.out
                      have hnc77 := NB468_447.out
                      have hcz78_0 : wc.cell? ⟨gb447, 0, none⟩ = some (.int .i64 t432) := (blk_cell BK447.out 0).trans rfl
                      have hcz78_1 : wc.cell? ⟨gb447, 1, none⟩ = some (.int .i64 t433) := (blk_cell BK447.out 1).trans rfl
                      have hcz78_2 : wc.cell? ⟨gb447, 2, none⟩ = some (.bool t434) := (blk_cell BK447.out 2).trans rfl
                      have hcz78_3 : wc.cell? ⟨gb447, 3, none⟩ = some (.int .i64 t435) := (blk_cell BK447.out 3).trans rfl
                      have hcz78_4 : wc.cell? ⟨gb447, 4, none⟩ = some (.int .i64 t436) := (blk_cell BK447.out 4).trans rfl
                      have hcz78_5 : wc.cell? ⟨gb447, 5, none⟩ = some (.int .i64 t437) := (blk_cell BK447.out 5).trans rfl
                      have hcz78_6 : wc.cell? ⟨gb447, 6, none⟩ = some (.int .i64 t438) := (blk_cell BK447.out 6).trans rfl
                      have hcz78_7 : wc.cell? ⟨gb447, 7, none⟩ = some (.string t439) := (blk_cell BK447.out 7).trans rfl
                      have hcz78_8 : wc.cell? ⟨gb447, 8, none⟩ = some (.slice Ao14 t450.length co14) := (blk_cell BK447.out 8).trans rfl
                      have hcz78_9 : wc.cell? ⟨gb447, 9, none⟩ = some (.slice Ao15 t451.length co15) := (blk_cell BK447.out 9).trans rfl
                      have hfz78_0 := blk_frozen BK447.out 0
                      have hfz78_1 := blk_frozen BK447.out 1
                      have hfz78_2 := blk_frozen BK447.out 2
                      have hfz78_3 := blk_frozen BK447.out 3
                      have hfz78_4 := blk_frozen BK447.out 4
                      have hfz78_5 := blk_frozen BK447.out 5
                      have hfz78_6 := blk_frozen BK447.out 6
                      have hfz78_7 := blk_frozen BK447.out 7
                      have hfz78_8 := blk_frozen BK447.out 8
                      have hfz78_9 := blk_frozen BK447.out 9
                      go_wp2_with (first | ((with_reducible refine gate_callee (f := 30) rfl ?_); refine goesL_ (some 57) rfl rfl Try.func30 (by kernel_rfl) rfl #[.agg #[.int .i64 t432, .int .i64 t433, .bool t434, .int .i64 t435, .int .i64 t436, .int .i64 t437, .int .i64 t438, .string t439, .slice Ao14 t450.length co14, .slice Ao15 t451.length co15], .int .i64 1] rfl (by (try simp only [List.map_toArray, List.map_cons, List.map_nil]); first | done | rfl | (simp only [List.length_drop, List.length_take]; rfl)) ?_; (with_reducible refine (laws_heldClient.calls kj36 t432 t433 t434 t435 t436 t437 t438 t439 _ _ t450 _ _ t451 1 t470 _ ?side1 ?side2 ?side3 ?side4 A65.out).mono ?_); (case side1 => repeat (first | exact (Kd.R_reads' HO_448008.out).2.2 | (with_reducible refine Kd.C_alloc ?_ _) | (with_reducible refine Kd.C_drewN ?_ _) | (with_reducible refine Kd.C_drew ?_))); (case side2 => exact (Kd.R_reads' HO_448008.out).2.1); (case side3 => repeat (first | exact (Kd.R_reads' HO_448009.out).2.2 | (with_reducible refine Kd.C_alloc ?_ _) | (with_reducible refine Kd.C_drewN ?_ _) | (with_reducible refine Kd.C_drew ?_))); (case side4 => exact (Kd.R_reads' HO_448009.out).2.1); rintro e w79 ⟨rfl, hb⟩; refine ⟨_, rfl, ?_⟩; have n0_ := Aside0.mk (Kd.R_below (by (with_reducible repeat (first | apply Kd.R_alloc | apply Kd.R_drewN | apply Kd.R_drew)); exact HO_432008.out) hb); have n1_ := Aside0.mk (Kd.R_below (by (with_reducible repeat (first | apply Kd.R_alloc | apply Kd.R_drewN | apply Kd.R_drew)); exact HO_432009.out) hb); have n2_ := Aside0.mk (Kd.R_below (by (with_reducible repeat (first | apply Kd.R_alloc | apply Kd.R_drewN | apply Kd.R_drew)); exact HO_448008.out) hb); have n3_ := Aside0.mk (Kd.R_below (by (with_reducible repeat (first | apply Kd.R_alloc | apply Kd.R_drewN | apply Kd.R_drew)); exact HO_448009.out) hb); have n4_ := Aside0.mk (Kd.R_below (by (with_reducible repeat (first | apply Kd.R_alloc | apply Kd.R_drewN | apply Kd.R_drew)); exact HO_469008.out) hb); have n5_ := Aside0.mk (Kd.R_below (by (with_reducible repeat (first | apply Kd.R_alloc | apply Kd.R_drewN | apply Kd.R_drew)); exact HO_469009.out) hb); have n6_ := Aside0.mk (blk_below (g := gb431) (o := .cells #[.int .i64 t416, .int .i64 t417, .bool t418, .int .i64 t419, .int .i64 t420, .int .i64 t421, .int .i64 t422, .string t423, .slice Ao8 t424.length co8, .slice Ao9 t427.length co9] 40 (0, 0)) (by (with_reducible repeat (first | refine blk_drewN ?_ _ | refine blk_drew ?_ | refine blk_alloc ?_ _)); exact BK431.out) hb); have n7_ := Aside0.mk (blk_below (g := gb447) (o := .cells #[.int .i64 t432, .int .i64 t433, .bool t434, .int .i64 t435, .int .i64 t436, .int .i64 t437, .int .i64 t438, .string t439, .slice Ao14 t450.length co14, .slice Ao15 t451.length co15] 40 (0, 0)) (by (with_reducible repeat (first | refine blk_drewN ?_ _ | refine blk_drew ?_ | refine blk_alloc ?_ _)); exact BK447.out) hb); have n8_ := Aside0.mk (blk_below (g := gb468) (o := .cells #[.int .i64 t453, .int .i64 t454, .bool t455, .int .i64 t456, .int .i64 t457, .int .i64 t458, .int .i64 t459, .string t460, .slice Ao48 t461.length co48, .slice Ao49 t464.length co49] 40 (0, 0)) (by (with_reducible repeat (first | refine blk_drewN ?_ _ | refine blk_drew ?_ | refine blk_alloc ?_ _)); exact BK468.out) hb); have n9_ := Aside0.mk (below_step (by repeat (first | (with_reducible first | exact HB.out | apply below_alloc | apply pw_below_drewN | apply below_drew1 | refine below_set ?_ GE431.out | refine below_set ?_ GE447.out | refine below_set ?_ GE468.out) | exact HB.out)) hb); clear HO_432008; clear HO_432009; clear HO_448008; clear HO_448009; clear HO_469008; clear HO_469009; clear BK431; clear BK447; clear BK468; clear HB; have HO_432008 := n0_; have HO_432009 := n1_; have HO_448008 := n2_; have HO_448009 := n3_; have HO_469008 := n4_; have HO_469009 := n5_; have BK431 := n6_; have BK447 := n7_; have BK468 := n8_; have HB := n9_; clear n0_ n1_ n2_ n3_ n4_ n5_ n6_ n7_ n8_ n9_; (try clear hb); (try clear hb2); (try clear hk); (try clear hi)))
                      go_ret
                      exact ⟨by first | rfl | (simp [errW_none, errW_some] <;> rfl) | (simp [*, errW_none, errW_some] <;> rfl) | (simp [mp_beq_nil, mp_bne_nil]; done) | (simp [*, mp_beq_nil, mp_bne_nil]; done), by repeat (first | (with_reducible first | exact HB.out | apply below_alloc | apply pw_below_drewN | apply below_drew1 | refine below_set ?_ GE431.out | refine below_set ?_ GE447.out | refine below_set ?_ GE468.out) | exact HB.out)⟩
          · rw [if_neg c35] at H
            have c35b0 : (t452 == t449) = false := beq_eq_false_iff_ne.mpr c35
            have c35b1 : (t452 != t449) = true := bne_iff_ne.mpr c35
            obtain rfl := Option.some.inj H
            have hnb80 := NB447_431.out
            have hnc80 := NB431_447.out
            have hcz81_0 : wc.cell? ⟨gb447, 0, none⟩ = some (.int .i64 t432) := (blk_cell BK447.out 0).trans rfl
            have hcz81_1 : wc.cell? ⟨gb447, 1, none⟩ = some (.int .i64 t433) := (blk_cell BK447.out 1).trans rfl
            have hcz81_2 : wc.cell? ⟨gb447, 2, none⟩ = some (.bool t434) := (blk_cell BK447.out 2).trans rfl
            have hcz81_3 : wc.cell? ⟨gb447, 3, none⟩ = some (.int .i64 t435) := (blk_cell BK447.out 3).trans rfl
            have hcz81_4 : wc.cell? ⟨gb447, 4, none⟩ = some (.int .i64 t436) := (blk_cell BK447.out 4).trans rfl
            have hcz81_5 : wc.cell? ⟨gb447, 5, none⟩ = some (.int .i64 t437) := (blk_cell BK447.out 5).trans rfl
            have hcz81_6 : wc.cell? ⟨gb447, 6, none⟩ = some (.int .i64 t438) := (blk_cell BK447.out 6).trans rfl
            have hcz81_7 : wc.cell? ⟨gb447, 7, none⟩ = some (.string t439) := (blk_cell BK447.out 7).trans rfl
            have hcz81_8 : wc.cell? ⟨gb447, 8, none⟩ = some (.slice Ao14 t440.length co14) := (blk_cell BK447.out 8).trans rfl
            have hcz81_9 : wc.cell? ⟨gb447, 9, none⟩ = some (.slice Ao15 t443.length co15) := (blk_cell BK447.out 9).trans rfl
            have hfz81_0 := blk_frozen BK447.out 0
            have hfz81_1 := blk_frozen BK447.out 1
            have hfz81_2 := blk_frozen BK447.out 2
            have hfz81_3 := blk_frozen BK447.out 3
            have hfz81_4 := blk_frozen BK447.out 4
            have hfz81_5 := blk_frozen BK447.out 5
            have hfz81_6 := blk_frozen BK447.out 6
            have hfz81_7 := blk_frozen BK447.out 7
            have hfz81_8 := blk_frozen BK447.out 8
            have hfz81_9 := blk_frozen BK447.out 9
            go_wp2_with (first | ((with_reducible refine gate_callee (f := 29) rfl ?_); refine goesL_ (some 32) rfl rfl Try.func29 (by kernel_rfl) rfl #[.agg #[.int .i64 t432, .int .i64 t433, .bool t434, .int .i64 t435, .int .i64 t436, .int .i64 t437, .int .i64 t438, .string t439, .slice Ao14 t440.length co14, .slice Ao15 t443.length co15], .int .i64 1] rfl (by (try simp only [List.map_toArray, List.map_cons, List.map_nil]); first | done | rfl | (simp only [List.length_drop, List.length_take]; rfl)) ?_; (with_reducible refine (laws_markClient.calls kj3 t432 t433 t434 t435 t436 t437 t438 t439 (fun k_ => some k_ = (.slice Ao14 t440.length co14 : Value).ownBlock) (.slice Ao14 t440.length co14) t440 (fun k_ => some k_ = (.slice Ao15 t443.length co15 : Value).ownBlock) (.slice Ao15 t443.length co15) t443 1 t449 t450 t451 w _ ?side1 ?side2 ?side3 A27.out).mono ?_); (case side1 => repeat (first | (with_reducible first | exact HB.out | apply below_alloc | apply pw_below_drewN | apply below_drew1 | refine below_set ?_ GE431.out | refine below_set ?_ GE447.out) | exact HB.out)); (case side2 => exact Kd.R_tight rfl HO_448008.out); (case side3 => exact Kd.R_tight rfl HO_448009.out); rintro e w82 ⟨rfl, hy0, hy1, hb, hkp⟩; refine ⟨_, rfl, ?_⟩; have n0_ := Aside0.mk (Kd.R_mono (ok' := fun k_ => some k_ ≠ (.slice Ao14 t440.length co14 : Value).ownBlock) (Kd.R_keptB ((Kd.R_apart' HO_432008.out (Kd.R_typed HO_448009.out) (by decide))) hkp (fun k_ hk_ hs_ => Or.elim hs_ (fun e_ => (hk_.1) e_) (fun e_ => (hk_.2) e_))) (fun k_ hk_ => hk_.1.1)); have n1_ := Aside0.mk (Kd.R_mono (ok' := fun k_ => some k_ ≠ (.slice Ao15 t443.length co15 : Value).ownBlock) (Kd.R_keptB ((Kd.R_apart' HO_432009.out (Kd.R_typed HO_448008.out) (by decide))) hkp (fun k_ hk_ hs_ => Or.elim hs_ (fun e_ => (hk_.2) e_) (fun e_ => (hk_.1) e_))) (fun k_ hk_ => hk_.1.1)); have n2_ := Aside0.mk (Kd.R_reok rfl hy0 (fun k_ e_ => HO_448008.out.1 k_ e_)); have n3_ := Aside0.mk (Kd.R_reok rfl hy1 (fun k_ e_ => HO_448009.out.1 k_ e_)); have n4_ := Aside0.mk (blk_kept (by (with_reducible repeat (first | refine blk_drewN ?_ _ | refine blk_drew ?_ | refine blk_alloc ?_ _)); exact BK431.out) hkp (fun hs_ => Or.elim hs_ (fun e_ => (fun e_ => (Kd.R_ne HO_448008.out BK431.out (by decide)) e_) e_) (fun e_ => (fun e_ => (Kd.R_ne HO_448009.out BK431.out (by decide)) e_) e_))); have n5_ := Aside0.mk (blk_kept (by (with_reducible repeat (first | refine blk_drewN ?_ _ | refine blk_drew ?_ | refine blk_alloc ?_ _)); exact BK447.out) hkp (fun hs_ => Or.elim hs_ (fun e_ => (fun e_ => (Kd.R_ne HO_448008.out BK447.out (by decide)) e_) e_) (fun e_ => (fun e_ => (Kd.R_ne HO_448009.out BK447.out (by decide)) e_) e_))); have n6_ := Aside0.mk (hb); clear HO_432008; clear HO_432009; clear HO_448008; clear HO_448009; clear BK431; clear BK447; clear HB; have HO_432008 := n0_; have HO_432009 := n1_; have HO_448008 := n2_; have HO_448009 := n3_; have BK431 := n4_; have BK447 := n5_; have HB := n6_; clear n0_ n1_ n2_ n3_ n4_ n5_ n6_; (try clear hb); (try clear hkp); (try clear hy0); (try clear hy1); have hcz83_0 : w82.cell? ⟨gb447, 0, none⟩ = some (.int .i64 t432) := (blk_cell BK447.out 0).trans rfl; have hcz83_1 : w82.cell? ⟨gb447, 1, none⟩ = some (.int .i64 t433) := (blk_cell BK447.out 1).trans rfl; have hcz83_2 : w82.cell? ⟨gb447, 2, none⟩ = some (.bool t434) := (blk_cell BK447.out 2).trans rfl; have hcz83_3 : w82.cell? ⟨gb447, 3, none⟩ = some (.int .i64 t435) := (blk_cell BK447.out 3).trans rfl; have hcz83_4 : w82.cell? ⟨gb447, 4, none⟩ = some (.int .i64 t436) := (blk_cell BK447.out 4).trans rfl; have hcz83_5 : w82.cell? ⟨gb447, 5, none⟩ = some (.int .i64 t437) := (blk_cell BK447.out 5).trans rfl; have hcz83_6 : w82.cell? ⟨gb447, 6, none⟩ = some (.int .i64 t438) := (blk_cell BK447.out 6).trans rfl; have hcz83_7 : w82.cell? ⟨gb447, 7, none⟩ = some (.string t439) := (blk_cell BK447.out 7).trans rfl; have hcz83_8 : w82.cell? ⟨gb447, 8, none⟩ = some (.slice Ao14 t440.length co14) := (blk_cell BK447.out 8).trans rfl; have hcz83_9 : w82.cell? ⟨gb447, 9, none⟩ = some (.slice Ao15 t443.length co15) := (blk_cell BK447.out 9).trans rfl; have hfz83_0 := blk_frozen BK447.out 0; have hfz83_1 := blk_frozen BK447.out 1; have hfz83_2 := blk_frozen BK447.out 2; have hfz83_3 := blk_frozen BK447.out 3; have hfz83_4 := blk_frozen BK447.out 4; have hfz83_5 := blk_frozen BK447.out 5; have hfz83_6 := blk_frozen BK447.out 6; have hfz83_7 := blk_frozen BK447.out 7; have hfz83_8 := blk_frozen BK447.out 8; have hfz83_9 := blk_frozen BK447.out 9) | ((with_reducible refine gate_callee (f := 30) rfl ?_); refine goesL_ (some 35) rfl rfl Try.func30 (by kernel_rfl) rfl #[.agg #[.int .i64 t432, .int .i64 t433, .bool t434, .int .i64 t435, .int .i64 t436, .int .i64 t437, .int .i64 t438, .string t439, .slice Ao14 t450.length co14, .slice Ao15 t451.length co15], .int .i64 1] rfl (by (try simp only [List.map_toArray, List.map_cons, List.map_nil]); first | done | (rw [show t450.length = t440.length from (Kd.R_reads' HO_448008.out).1.symm, show t451.length = t443.length from (Kd.R_reads' HO_448009.out).1.symm] <;> rfl) | rfl | (simp only [List.length_drop, List.length_take]; rfl)) ?_; (with_reducible refine (laws_heldClient.calls kj3 t432 t433 t434 t435 t436 t437 t438 t439 _ _ t450 _ _ t451 1 t452 _ ?side1 ?side2 ?side3 ?side4 A28.out).mono ?_); (case side1 => repeat (first | exact (Kd.R_reads' HO_448008.out).2.2 | (with_reducible refine Kd.C_alloc ?_ _) | (with_reducible refine Kd.C_drewN ?_ _) | (with_reducible refine Kd.C_drew ?_))); (case side2 => rw [show t450.length = t440.length from (Kd.R_reads' HO_448008.out).1.symm]; exact (Kd.R_reads' HO_448008.out).2.1); (case side3 => repeat (first | exact (Kd.R_reads' HO_448009.out).2.2 | (with_reducible refine Kd.C_alloc ?_ _) | (with_reducible refine Kd.C_drewN ?_ _) | (with_reducible refine Kd.C_drew ?_))); (case side4 => rw [show t451.length = t443.length from (Kd.R_reads' HO_448009.out).1.symm]; exact (Kd.R_reads' HO_448009.out).2.1); rintro e w84 ⟨rfl, hb⟩; refine ⟨_, rfl, ?_⟩; have n0_ := Aside0.mk (Kd.R_below (by (with_reducible repeat (first | apply Kd.R_alloc | apply Kd.R_drewN | apply Kd.R_drew)); exact HO_432008.out) hb); have n1_ := Aside0.mk (Kd.R_below (by (with_reducible repeat (first | apply Kd.R_alloc | apply Kd.R_drewN | apply Kd.R_drew)); exact HO_432009.out) hb); have n2_ := Aside0.mk (Kd.R_below (by (with_reducible repeat (first | apply Kd.R_alloc | apply Kd.R_drewN | apply Kd.R_drew)); exact HO_448008.out) hb); have n3_ := Aside0.mk (Kd.R_below (by (with_reducible repeat (first | apply Kd.R_alloc | apply Kd.R_drewN | apply Kd.R_drew)); exact HO_448009.out) hb); have n4_ := Aside0.mk (blk_below (g := gb431) (o := .cells #[.int .i64 t416, .int .i64 t417, .bool t418, .int .i64 t419, .int .i64 t420, .int .i64 t421, .int .i64 t422, .string t423, .slice Ao8 t424.length co8, .slice Ao9 t427.length co9] 40 (0, 0)) (by (with_reducible repeat (first | refine blk_drewN ?_ _ | refine blk_drew ?_ | refine blk_alloc ?_ _)); exact BK431.out) hb); have n5_ := Aside0.mk (blk_below (g := gb447) (o := .cells #[.int .i64 t432, .int .i64 t433, .bool t434, .int .i64 t435, .int .i64 t436, .int .i64 t437, .int .i64 t438, .string t439, .slice Ao14 t440.length co14, .slice Ao15 t443.length co15] 40 (0, 0)) (by (with_reducible repeat (first | refine blk_drewN ?_ _ | refine blk_drew ?_ | refine blk_alloc ?_ _)); exact BK447.out) hb); have n6_ := Aside0.mk (below_step (by repeat (first | (with_reducible first | exact HB.out | apply below_alloc | apply pw_below_drewN | apply below_drew1 | refine below_set ?_ GE431.out | refine below_set ?_ GE447.out) | exact HB.out)) hb); clear HO_432008; clear HO_432009; clear HO_448008; clear HO_448009; clear BK431; clear BK447; clear HB; have HO_432008 := n0_; have HO_432009 := n1_; have HO_448008 := n2_; have HO_448009 := n3_; have BK431 := n4_; have BK447 := n5_; have HB := n6_; clear n0_ n1_ n2_ n3_ n4_ n5_ n6_; (try clear hb); (try clear hb2); (try clear hk); (try clear hi)))
            go_ret
            exact ⟨by first | rfl | (simp [errW_none, errW_some] <;> rfl) | (simp [*, errW_none, errW_some] <;> rfl) | (simp [mp_beq_nil, mp_bne_nil]; done) | (simp [*, mp_beq_nil, mp_bne_nil]; done), by repeat (first | (with_reducible first | exact HB.out | apply below_alloc | apply pw_below_drewN | apply below_drew1 | refine below_set ?_ GE431.out | refine below_set ?_ GE447.out) | exact HB.out)⟩
end Go.Proofs.Ytofkobbiomhblaa.A
end
