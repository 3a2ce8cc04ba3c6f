/- A part of the proof that FnExactReadBatch returns true at every input: plain functions, contracts and lemmas. No conditions. -/
import Derived.Test.YtofkobbiomhblaaQReadBatchf
set_option linter.unusedVariables false
set_option linter.unusedSimpArgs false
set_option linter.unusedSectionVars false
section
namespace Go.Proofs.Ytofkobbiomhblaa.A
open Go.RowKit Go.Proofs.YtofkobbiomhblaaW.PrintWords Go.Proofs.YtofkobbiomhblaaW.PrintLast Go.Proofs.YtofkobbiomhblaaW.PrintMore
attribute [local go_sem] max2_int min2_int max_two min_two max_three min_three max_four min_four
set_option maxHeartbeats 8000000 in
set_option maxRecDepth 100000 in
theorem laws_FnExactReadBatch.calls (k : Nat) (A0 : Option Addr) (c0 : Nat) (l0 : List Int) (r : Bool) (w : World) (hr0 : Kd.C (Kd.int .u8) w A0 l0.length l0) (hc0 : l0.length ≤ c0) (h : laws_FnExactReadBatch.f k l0 = some r) :
  Calls Try.prog 8 #[.slice A0 l0.length c0] w fun e w' => e = .returned (.bool r) ∧ Below w.heap.size w w' := by
 have hu67 := Try.underlying67
 have HR0 := am_ hr0
 have HC0 := am_ hc0
 clear hr0 hc0
 have HB := am_ (Below.refl w.heap.size w)
 have H : (if (l0.length : Int) > 1048576 then (some true) else ((laws_toByteS.f k l0).bind fun t1188 => ((spec_ReadBatch.f k t1188).bind fun bt1191 => ((laws_toByteS.f k l0).bind fun t1202 => ((impl_ReadBatch.f k t1202).bind fun bt1205 => ((laws_eqBatch.f k bt1205.1 bt1205.2.1 bt1205.2.2.1 bt1205.2.2.2.1 bt1205.2.2.2.2.1 bt1205.2.2.2.2.2.1 bt1205.2.2.2.2.2.2.1 bt1191.1 bt1191.2.1 bt1191.2.2.1 bt1191.2.2.2.1 bt1191.2.2.2.2.1 bt1191.2.2.2.2.2.1 bt1191.2.2.2.2.2.2.1).bind fun t1216 => (if t1216 = true then (laws_FnExactReadBatch.j0 k l0 bt1191.2.2.2.2.2.2.2 t1202 bt1205.2.2.2.2.2.2.2 (bt1205.2.2.2.2.2.2.2 != bt1191.2.2.2.2.2.2.2) bt1191.1 bt1191.2.1 bt1191.2.2.1 bt1191.2.2.2.1 bt1191.2.2.2.2.1 bt1191.2.2.2.2.2.1 bt1191.2.2.2.2.2.2.1 bt1205.1 bt1205.2.1 bt1205.2.2.1 bt1205.2.2.2.1 bt1205.2.2.2.2.1 bt1205.2.2.2.2.2.1 bt1205.2.2.2.2.2.2.1) else (laws_FnExactReadBatch.j0 k l0 bt1191.2.2.2.2.2.2.2 t1202 bt1205.2.2.2.2.2.2.2 true bt1191.1 bt1191.2.1 bt1191.2.2.1 bt1191.2.2.2.1 bt1191.2.2.2.2.1 bt1191.2.2.2.2.2.1 bt1191.2.2.2.2.2.2.1 bt1205.1 bt1205.2.1 bt1205.2.2.1 bt1205.2.2.2.1 bt1205.2.2.2.2.1 bt1205.2.2.2.2.2.1 bt1205.2.2.2.2.2.2.1)))))))) = some r := h
 clear h
 by_cases c2 : (l0.length : Int) > 1048576
 ·rw [if_pos c2] at H
  have c2b0 : decide (1048576 < (l0.length : Int)) = true := decide_eq_true c2
  have c2b1 : decide (1048576 < l0.length) = true := decide_eq_true (by omega)
  clear c2
  obtain rfl := Option.some.inj H
  go_enter Try.func8, Try.ntmps8
  go_wp2
  go_ret
  exact ⟨by first | rfl | (simp [e1_, e2_] <;> rfl) | (simp [*, e1_, e2_] <;> rfl) | (simp [e3_, e4_]; done) | (simp [*, e3_, e4_]; done), by repeat (first | (with_reducible first | exact HB.out | apply b1_ | apply b2_ | apply b3_) | exact HB.out)⟩
 ·rw [if_neg c2] at H
  have c2b0 : decide (1048576 < (l0.length : Int)) = false := decide_eq_false c2
  have c2b1 : decide (1048576 < l0.length) = false := decide_eq_false (by omega)
  clear c2
  replace H := Option.bind_eq_some_iff.mp H
  obtain ⟨t1188, A30, H⟩ := H
  replace H : ((spec_ReadBatch.f k t1188).bind fun bt1191 => ((laws_toByteS.f k l0).bind fun t1202 => ((impl_ReadBatch.f k t1202).bind fun bt1205 => ((laws_eqBatch.f k bt1205.1 bt1205.2.1 bt1205.2.2.1 bt1205.2.2.2.1 bt1205.2.2.2.2.1 bt1205.2.2.2.2.2.1 bt1205.2.2.2.2.2.2.1 bt1191.1 bt1191.2.1 bt1191.2.2.1 bt1191.2.2.2.1 bt1191.2.2.2.2.1 bt1191.2.2.2.2.2.1 bt1191.2.2.2.2.2.2.1).bind fun t1216 => (if t1216 = true then (laws_FnExactReadBatch.j0 k l0 bt1191.2.2.2.2.2.2.2 t1202 bt1205.2.2.2.2.2.2.2 (bt1205.2.2.2.2.2.2.2 != bt1191.2.2.2.2.2.2.2) bt1191.1 bt1191.2.1 bt1191.2.2.1 bt1191.2.2.2.1 bt1191.2.2.2.2.1 bt1191.2.2.2.2.2.1 bt1191.2.2.2.2.2.2.1 bt1205.1 bt1205.2.1 bt1205.2.2.1 bt1205.2.2.2.1 bt1205.2.2.2.2.1 bt1205.2.2.2.2.2.1 bt1205.2.2.2.2.2.2.1) else (laws_FnExactReadBatch.j0 k l0 bt1191.2.2.2.2.2.2.2 t1202 bt1205.2.2.2.2.2.2.2 true bt1191.1 bt1191.2.1 bt1191.2.2.1 bt1191.2.2.2.1 bt1191.2.2.2.2.1 bt1191.2.2.2.2.2.1 bt1191.2.2.2.2.2.2.1 bt1205.1 bt1205.2.1 bt1205.2.2.1 bt1205.2.2.2.1 bt1205.2.2.2.2.1 bt1205.2.2.2.2.2.1 bt1205.2.2.2.2.2.2.1)))))) = some r := H
  have A3 := am_ A30
  clear A30
  replace H := Option.bind_eq_some_iff.mp H
  obtain ⟨⟨t1191, t1192, t1193, t1194, t1195, t1196, t1197, t1200⟩, A40, H⟩ := H
  replace H : ((laws_toByteS.f k l0).bind fun t1202 => ((impl_ReadBatch.f k t1202).bind fun bt1205 => ((laws_eqBatch.f k bt1205.1 bt1205.2.1 bt1205.2.2.1 bt1205.2.2.2.1 bt1205.2.2.2.2.1 bt1205.2.2.2.2.2.1 bt1205.2.2.2.2.2.2.1 t1191 t1192 t1193 t1194 t1195 t1196 t1197).bind fun t1216 => (if t1216 = true then (laws_FnExactReadBatch.j0 k l0 t1200 t1202 bt1205.2.2.2.2.2.2.2 (bt1205.2.2.2.2.2.2.2 != t1200) t1191 t1192 t1193 t1194 t1195 t1196 t1197 bt1205.1 bt1205.2.1 bt1205.2.2.1 bt1205.2.2.2.1 bt1205.2.2.2.2.1 bt1205.2.2.2.2.2.1 bt1205.2.2.2.2.2.2.1) else (laws_FnExactReadBatch.j0 k l0 t1200 t1202 bt1205.2.2.2.2.2.2.2 true t1191 t1192 t1193 t1194 t1195 t1196 t1197 bt1205.1 bt1205.2.1 bt1205.2.2.1 bt1205.2.2.2.1 bt1205.2.2.2.2.1 bt1205.2.2.2.2.2.1 bt1205.2.2.2.2.2.2.1))))) = some r := H
  have A4 := am_ A40
  clear A40
  replace H := Option.bind_eq_some_iff.mp H
  obtain ⟨t1202, A50, H⟩ := H
  replace H : ((impl_ReadBatch.f k t1202).bind fun bt1205 => ((laws_eqBatch.f k bt1205.1 bt1205.2.1 bt1205.2.2.1 bt1205.2.2.2.1 bt1205.2.2.2.2.1 bt1205.2.2.2.2.2.1 bt1205.2.2.2.2.2.2.1 t1191 t1192 t1193 t1194 t1195 t1196 t1197).bind fun t1216 => (if t1216 = true then (laws_FnExactReadBatch.j0 k l0 t1200 t1202 bt1205.2.2.2.2.2.2.2 (bt1205.2.2.2.2.2.2.2 != t1200) t1191 t1192 t1193 t1194 t1195 t1196 t1197 bt1205.1 bt1205.2.1 bt1205.2.2.1 bt1205.2.2.2.1 bt1205.2.2.2.2.1 bt1205.2.2.2.2.2.1 bt1205.2.2.2.2.2.2.1) else (laws_FnExactReadBatch.j0 k l0 t1200 t1202 bt1205.2.2.2.2.2.2.2 true t1191 t1192 t1193 t1194 t1195 t1196 t1197 bt1205.1 bt1205.2.1 bt1205.2.2.1 bt1205.2.2.2.1 bt1205.2.2.2.2.1 bt1205.2.2.2.2.2.1 bt1205.2.2.2.2.2.2.1)))) = some r := H
  have A5 := am_ A50
  clear A50
  replace H := Option.bind_eq_some_iff.mp H
  obtain ⟨⟨t1205, t1206, t1207, t1208, t1209, t1210, t1211, t1214⟩, A60, H⟩ := H
  replace H : ((laws_eqBatch.f k t1205 t1206 t1207 t1208 t1209 t1210 t1211 t1191 t1192 t1193 t1194 t1195 t1196 t1197).bind fun t1216 => (if t1216 = true then (laws_FnExactReadBatch.j0 k l0 t1200 t1202 t1214 (t1214 != t1200) t1191 t1192 t1193 t1194 t1195 t1196 t1197 t1205 t1206 t1207 t1208 t1209 t1210 t1211) else (laws_FnExactReadBatch.j0 k l0 t1200 t1202 t1214 true t1191 t1192 t1193 t1194 t1195 t1196 t1197 t1205 t1206 t1207 t1208 t1209 t1210 t1211))) = some r := H
  have A6 := am_ A60
  clear A60
  have HC7 := am_ H
  clear H
  go_enter Try.func8, Try.ntmps8
  go_upto_region 6 with (first | ((with_reducible refine gate_callee (f := 44) rfl ?_); refine goesL_ (some 18) rfl rfl Try.func44 (by kernel_rfl) rfl #[.slice A0 l0.length c0] rfl (by (try simp only [m1_, m2_, m3_]); first | done | rfl | (simp only [d1_, d2_]; rfl)) ?_; (with_reducible refine (laws_toByteS.calls k _ _ l0 t1188 _ ?side1 ?side2 A3.out).mono ?_); (case side1 => repeat (first | exact HR0.out | (with_reducible refine Kd.C_alloc ?_ _) | (with_reducible refine Kd.C_drewN ?_ _) | (with_reducible refine Kd.C_drew ?_))); (case side2 => exact HC0.out); rintro e w8 ⟨v1189, rfl, ho0, hb⟩; refine ⟨_, rfl, ?_⟩; have n0_ := am_ (Kd.R_lower ho0 (below_size (by repeat (first | (with_reducible first | exact HB.out | apply b1_ | apply b2_ | apply b3_) | exact HB.out)))); have n1_ := am_ (below_step (by repeat (first | (with_reducible first | exact HB.out | apply b1_ | apply b2_ | apply b3_) | exact HB.out)) hb); clear HB; have HO1190 := n0_; have HB := n1_; clear n0_ n1_; (try clear hb); (try clear hb2); (try clear hk); (try clear hi); (try clear ho0); obtain ⟨Ao9, co9, eo9⟩ := Kd.R_slice HO1190.out; subst eo9) | ((with_reducible refine gate_callee (f := 43) rfl ?_); refine goesL_ (some 19) rfl rfl Try.func43 (by kernel_rfl) rfl #[.slice Ao9 t1188.length co9] rfl (by (try simp only [m1_, m2_, m3_]); first | done | rfl | (simp only [d1_, d2_]; rfl)) ?_; (with_reducible refine (spec_ReadBatch.calls k _ _ t1188 t1191 t1192 t1193 t1194 t1195 t1196 t1197 t1200 _ ?side1 ?side2 A4.out).mono ?_); (case side1 => repeat (first | exact (Kd.R_reads' HO1190.out).2.2 | (with_reducible refine Kd.C_alloc ?_ _) | (with_reducible refine Kd.C_drewN ?_ _) | (with_reducible refine Kd.C_drew ?_))); (case side2 => exact (Kd.R_reads' HO1190.out).2.1); rintro e w10 ⟨v1198, rfl, ho0, hb⟩; refine ⟨_, rfl, ?_⟩; have n0_ := am_ (Kd.R_below (by (with_reducible repeat (first | apply r1_ | apply r2_ | apply r3_)); exact HO1190.out) hb); have n1_ := am_ (Kd.R_lower ho0 (below_size (by repeat (first | (with_reducible first | exact HB.out | apply b1_ | apply b2_ | apply b3_) | exact HB.out)))); have n2_ := am_ (below_step (by repeat (first | (with_reducible first | exact HB.out | apply b1_ | apply b2_ | apply b3_) | exact HB.out)) hb); clear HO1190; clear HB; have HO1190 := n0_; have HO1199 := n1_; have HB := n2_; clear n0_ n1_ n2_; (try clear hb); (try clear hb2); (try clear hk); (try clear hi); (try clear ho0)) | ((with_reducible refine gate_dst (N := 3) rfl ?_); refine box_event ?hg (N := 3) ?hd (cs := #[.bool false, .int .i64 0, .int .i64 0, .int .i64 0, .int .i64 0, .string (⟨#[]⟩ : ByteArray), .slice none 0 0]) (t := 67) ?hr ?_; (case hd => rfl); (case hg => rfl); (case hr => first | (go_simp; done) | (go_simp; rfl)); intro gb1201 hg w11 hbox hb; have n0_ := am_ (Kd.R_below (by (with_reducible repeat (first | apply r1_ | apply r2_ | apply r3_)); exact HO1190.out) hb); have n1_ := am_ (Kd.R_below (by (with_reducible repeat (first | apply r1_ | apply r2_ | apply r3_)); exact HO1199.out) hb); have n2_ := am_ (below_step (by repeat (first | (with_reducible first | exact HB.out | apply b1_ | apply b2_ | apply b3_) | exact HB.out)) hb); have n3_ := am_ (hbox); have n4_ := am_ ((by rw [hg]; exact (below_size (by repeat (first | (with_reducible first | exact HB.out | apply b1_ | apply b2_ | apply b3_) | exact HB.out))) : w.heap.size ≤ gb1201)); have n5_ := am_ ((by rw [hg]; exact (below_size (by repeat (first | (with_reducible first | exact HB.out | apply b1_ | apply b2_ | apply b3_) | exact HB.out))) : w.heap.size ≤ gb1201)); clear HO1190; clear HO1199; clear HB; have HO1190 := n0_; have HO1199 := n1_; have HB := n2_; have BK1201 := n3_; have GW1201 := n4_; have GE1201 := n5_; clear n0_ n1_ n2_ n3_ n4_ n5_; clear hb hbox hg; have hcz12_0 : w11.cell? ⟨gb1201, 0, none⟩ = some (.bool false) := (blk_cell BK1201.out 0).trans rfl; have hcz12_1 : w11.cell? ⟨gb1201, 1, none⟩ = some (.int .i64 0) := (blk_cell BK1201.out 1).trans rfl; have hcz12_2 : w11.cell? ⟨gb1201, 2, none⟩ = some (.int .i64 0) := (blk_cell BK1201.out 2).trans rfl; have hcz12_3 : w11.cell? ⟨gb1201, 3, none⟩ = some (.int .i64 0) := (blk_cell BK1201.out 3).trans rfl; have hcz12_4 : w11.cell? ⟨gb1201, 4, none⟩ = some (.int .i64 0) := (blk_cell BK1201.out 4).trans rfl; have hcz12_5 : w11.cell? ⟨gb1201, 5, none⟩ = some (.string (⟨#[]⟩ : ByteArray)) := (blk_cell BK1201.out 5).trans rfl; have hcz12_6 : w11.cell? ⟨gb1201, 6, none⟩ = some (.slice none 0 0) := (blk_cell BK1201.out 6).trans rfl; have hfz12_0 := blk_frozen BK1201.out 0; have hfz12_1 := blk_frozen BK1201.out 1; have hfz12_2 := blk_frozen BK1201.out 2; have hfz12_3 := blk_frozen BK1201.out 3; have hfz12_4 := blk_frozen BK1201.out 4; have hfz12_5 := blk_frozen BK1201.out 5; have hfz12_6 := blk_frozen BK1201.out 6; obtain ⟨Ao13, co13, eo13⟩ := Kd.R_slice HO1199.out; subst eo13) | ((with_reducible refine gate_callee (f := 44) rfl ?_); refine goesL_ (some 23) rfl rfl Try.func44 (by kernel_rfl) rfl #[.slice A0 l0.length c0] rfl (by (try simp only [m1_, m2_, m3_]); first | done | rfl | (simp only [d1_, d2_]; rfl)) ?_; (with_reducible refine (laws_toByteS.calls k _ _ l0 t1202 _ ?side1 ?side2 A5.out).mono ?_); (case side1 => exact Kd.C_below HR0.out (by repeat (first | (with_reducible first | exact HB.out | apply b1_ | apply b2_ | apply b3_ | refine below_set ?_ GE1201.out) | exact HB.out))); (case side2 => exact HC0.out); rintro e w14 ⟨v1203, rfl, ho0, hb⟩; refine ⟨_, rfl, ?_⟩; have n0_ := am_ (Kd.R_elder' (by (with_reducible repeat (first | apply r1_ | apply r2_ | apply r3_)); exact (Kd.R_mono (Kd.Rf (Kd.Rf (Kd.Rf (Kd.Rf (Kd.Rf (Kd.Rf (Kd.Rf (Kd.R_types HO1190.out BK1201.out (by decide))))))))) (fun _ h_ => h_.1))) (Kd.R_base ho0) hb); have n1_ := am_ (Kd.R_below (by (with_reducible repeat (first | apply r1_ | apply r2_ | apply r3_)); exact (Kd.R_mono (Kd.Rf (Kd.Rf (Kd.Rf (Kd.Rf (Kd.Rf (Kd.Rf (Kd.Rf (Kd.R_types HO1199.out BK1201.out (by decide))))))))) (fun _ h_ => h_.1))) hb); have n2_ := am_ (Kd.R_lower (Kd.R_new' ho0 (Kd.R_lt (by (with_reducible repeat (first | apply r1_ | apply r2_ | apply r3_)); exact (Kd.R_mono (Kd.Rf (Kd.Rf (Kd.Rf (Kd.Rf (Kd.Rf (Kd.Rf (Kd.Rf (Kd.R_types HO1190.out BK1201.out (by decide))))))))) (fun _ h_ => h_.1))))) (below_size (by repeat (first | (with_reducible first | exact HB.out | apply b1_ | apply b2_ | apply b3_ | refine below_set ?_ GE1201.out) | exact HB.out)))); have n3_ := am_ (blk_below (g := gb1201) (o := .cells #[.bool t1191, .int .i64 t1192, .int .i64 t1193, .int .i64 t1194, .int .i64 t1195, .string t1196, .slice Ao13 t1197.length co13] 67 (0, 0)) (by (with_reducible repeat (first | apply k1_ | apply k2_ | apply k3_)); refine blk_put (cs := #[.bool t1191, .int .i64 t1192, .int .i64 t1193, .int .i64 t1194, .int .i64 t1195, .string t1196, .slice none 0 0]) ?_ 6 _ rfl; (with_reducible repeat (first | apply k1_ | apply k2_ | apply k3_)); refine blk_put (cs := #[.bool t1191, .int .i64 t1192, .int .i64 t1193, .int .i64 t1194, .int .i64 t1195, .string (⟨#[]⟩ : ByteArray), .slice none 0 0]) ?_ 5 _ rfl; (with_reducible repeat (first | apply k1_ | apply k2_ | apply k3_)); refine blk_put (cs := #[.bool t1191, .int .i64 t1192, .int .i64 t1193, .int .i64 t1194, .int .i64 0, .string (⟨#[]⟩ : ByteArray), .slice none 0 0]) ?_ 4 _ rfl; (with_reducible repeat (first | apply k1_ | apply k2_ | apply k3_)); refine blk_put (cs := #[.bool t1191, .int .i64 t1192, .int .i64 t1193, .int .i64 0, .int .i64 0, .string (⟨#[]⟩ : ByteArray), .slice none 0 0]) ?_ 3 _ rfl; (with_reducible repeat (first | apply k1_ | apply k2_ | apply k3_)); refine blk_put (cs := #[.bool t1191, .int .i64 t1192, .int .i64 0, .int .i64 0, .int .i64 0, .string (⟨#[]⟩ : ByteArray), .slice none 0 0]) ?_ 2 _ rfl; (with_reducible repeat (first | apply k1_ | apply k2_ | apply k3_)); refine blk_put (cs := #[.bool t1191, .int .i64 0, .int .i64 0, .int .i64 0, .int .i64 0, .string (⟨#[]⟩ : ByteArray), .slice none 0 0]) ?_ 1 _ rfl; (with_reducible repeat (first | apply k1_ | apply k2_ | apply k3_)); refine blk_put (cs := #[.bool false, .int .i64 0, .int .i64 0, .int .i64 0, .int .i64 0, .string (⟨#[]⟩ : ByteArray), .slice none 0 0]) ?_ 0 _ rfl; (with_reducible repeat (first | apply k1_ | apply k2_ | apply k3_)); exact BK1201.out) hb); have n4_ := am_ (below_step (by repeat (first | (with_reducible first | exact HB.out | apply b1_ | apply b2_ | apply b3_ | refine below_set ?_ GE1201.out) | exact HB.out)) hb); clear HO1190; clear HO1199; clear BK1201; clear HB; have HO1190 := n0_; have HO1199 := n1_; have HO1204 := n2_; have BK1201 := n3_; have HB := n4_; clear n0_ n1_ n2_ n3_ n4_; (try clear hb); (try clear hb2); (try clear hk); (try clear hi); (try clear ho0); obtain ⟨Ao15, co15, eo15⟩ := Kd.R_slice HO1204.out; subst eo15) | ((with_reducible refine gate_callee (f := 45) rfl ?_); refine goesL_ (some 26) rfl rfl Try.func45 (by kernel_rfl) rfl #[.slice Ao15 t1202.length co15] rfl (by (try simp only [m1_, m2_, m3_]); first | done | rfl | (simp only [d1_, d2_]; rfl)) ?_; (with_reducible refine (impl_ReadBatch.calls k _ _ t1202 t1205 t1206 t1207 t1208 t1209 t1210 t1211 t1214 _ ?side1 ?side2 A6.out).mono ?_); (case side1 => repeat (first | exact (Kd.R_reads' HO1204.out).2.2 | (with_reducible refine Kd.C_alloc ?_ _) | (with_reducible refine Kd.C_drewN ?_ _) | (with_reducible refine Kd.C_drew ?_))); (case side2 => exact (Kd.R_reads' HO1204.out).2.1); rintro e w16 ⟨v1212, rfl, ho0, hb⟩; refine ⟨_, rfl, ?_⟩; have n0_ := am_ (Kd.R_below (by (with_reducible repeat (first | apply r1_ | apply r2_ | apply r3_)); exact HO1190.out) hb); have n1_ := am_ (Kd.R_elder' (by (with_reducible repeat (first | apply r1_ | apply r2_ | apply r3_)); exact HO1199.out) (Kd.R_base ho0) hb); have n2_ := am_ (Kd.R_below (by (with_reducible repeat (first | apply r1_ | apply r2_ | apply r3_)); exact HO1204.out) hb); have n3_ := am_ (Kd.R_lower (Kd.R_new' ho0 (Kd.R_lt (by (with_reducible repeat (first | apply r1_ | apply r2_ | apply r3_)); exact HO1199.out))) (below_size (by repeat (first | (with_reducible first | exact HB.out | apply b1_ | apply b2_ | apply b3_ | refine below_set ?_ GE1201.out) | exact HB.out)))); have n4_ := am_ (blk_below (g := gb1201) (o := .cells #[.bool t1191, .int .i64 t1192, .int .i64 t1193, .int .i64 t1194, .int .i64 t1195, .string t1196, .slice Ao13 t1197.length co13] 67 (0, 0)) (by (with_reducible repeat (first | apply k1_ | apply k2_ | apply k3_)); exact BK1201.out) hb); have n5_ := am_ (below_step (by repeat (first | (with_reducible first | exact HB.out | apply b1_ | apply b2_ | apply b3_ | refine below_set ?_ GE1201.out) | exact HB.out)) hb); clear HO1190; clear HO1199; clear HO1204; clear BK1201; clear HB; have HO1190 := n0_; have HO1199 := n1_; have HO1204 := n2_; have HO1213 := n3_; have BK1201 := n4_; have HB := n5_; clear n0_ n1_ n2_ n3_ n4_ n5_; (try clear hb); (try clear hb2); (try clear hk); (try clear hi); (try clear ho0)) | ((with_reducible refine gate_dst (N := 6) rfl ?_); refine box_event ?hg (N := 6) ?hd (cs := #[.bool false, .int .i64 0, .int .i64 0, .int .i64 0, .int .i64 0, .string (⟨#[]⟩ : ByteArray), .slice none 0 0]) (t := 67) ?hr ?_; (case hd => rfl); (case hg => rfl); (case hr => first | (go_simp; done) | (go_simp; rfl)); intro gb1215 hg w17 hbox hb; have n0_ := am_ (Kd.R_below (by (with_reducible repeat (first | apply r1_ | apply r2_ | apply r3_)); exact HO1190.out) hb); have n1_ := am_ (Kd.R_below (by (with_reducible repeat (first | apply r1_ | apply r2_ | apply r3_)); exact HO1199.out) hb); have n2_ := am_ (Kd.R_below (by (with_reducible repeat (first | apply r1_ | apply r2_ | apply r3_)); exact HO1204.out) hb); have n3_ := am_ (Kd.R_below (by (with_reducible repeat (first | apply r1_ | apply r2_ | apply r3_)); exact HO1213.out) hb); have n4_ := am_ (blk_below (g := gb1201) (o := .cells #[.bool t1191, .int .i64 t1192, .int .i64 t1193, .int .i64 t1194, .int .i64 t1195, .string t1196, .slice Ao13 t1197.length co13] 67 (0, 0)) (by (with_reducible repeat (first | apply k1_ | apply k2_ | apply k3_)); exact BK1201.out) hb); have n5_ := am_ (below_step (by repeat (first | (with_reducible first | exact HB.out | apply b1_ | apply b2_ | apply b3_ | refine below_set ?_ GE1201.out) | exact HB.out)) hb); have n6_ := am_ (hbox); have n7_ := am_ ((by rw [hg]; exact (below_size (by repeat (first | (with_reducible first | exact HB.out | apply b1_ | apply b2_ | apply b3_ | refine below_set ?_ GE1201.out) | exact HB.out))) : w.heap.size ≤ gb1215)); have n8_ := am_ ((by rw [hg]; exact (below_size (by repeat (first | (with_reducible first | exact HB.out | apply b1_ | apply b2_ | apply b3_ | refine below_set ?_ GE1201.out) | exact HB.out))) : w.heap.size ≤ gb1215)); have n9_ := am_ ((by rw [hg]; exact Nat.ne_of_lt (blk_lt (g := gb1201) (o := .cells #[.bool t1191, .int .i64 t1192, .int .i64 t1193, .int .i64 t1194, .int .i64 t1195, .string t1196, .slice Ao13 t1197.length co13] 67 (0, 0)) (by (with_reducible repeat (first | apply k1_ | apply k2_ | apply k3_)); exact BK1201.out)) : gb1201 ≠ gb1215)); have n10_ := am_ ((by rw [hg]; exact Nat.ne_of_gt (blk_lt (g := gb1201) (o := .cells #[.bool t1191, .int .i64 t1192, .int .i64 t1193, .int .i64 t1194, .int .i64 t1195, .string t1196, .slice Ao13 t1197.length co13] 67 (0, 0)) (by (with_reducible repeat (first | apply k1_ | apply k2_ | apply k3_)); exact BK1201.out)) : gb1215 ≠ gb1201)); clear HO1190; clear HO1199; clear HO1204; clear HO1213; clear BK1201; clear HB; have HO1190 := n0_; have HO1199 := n1_; have HO1204 := n2_; have HO1213 := n3_; have BK1201 := n4_; have HB := n5_; have BK1215 := n6_; have GW1215 := n7_; have GE1215 := n8_; have NB1201_1215 := n9_; have NB1215_1201 := n10_; clear n0_ n1_ n2_ n3_ n4_ n5_ n6_ n7_ n8_ n9_ n10_; clear hb hbox hg; have hnb18 := NB1215_1201.out; have hnc18 := NB1201_1215.out; have hcz19_0 : w17.cell? ⟨gb1215, 0, none⟩ = some (.bool false) := (blk_cell BK1215.out 0).trans rfl; have hcz19_1 : w17.cell? ⟨gb1215, 1, none⟩ = some (.int .i64 0) := (blk_cell BK1215.out 1).trans rfl; have hcz19_2 : w17.cell? ⟨gb1215, 2, none⟩ = some (.int .i64 0) := (blk_cell BK1215.out 2).trans rfl; have hcz19_3 : w17.cell? ⟨gb1215, 3, none⟩ = some (.int .i64 0) := (blk_cell BK1215.out 3).trans rfl; have hcz19_4 : w17.cell? ⟨gb1215, 4, none⟩ = some (.int .i64 0) := (blk_cell BK1215.out 4).trans rfl; have hcz19_5 : w17.cell? ⟨gb1215, 5, none⟩ = some (.string (⟨#[]⟩ : ByteArray)) := (blk_cell BK1215.out 5).trans rfl; have hcz19_6 : w17.cell? ⟨gb1215, 6, none⟩ = some (.slice none 0 0) := (blk_cell BK1215.out 6).trans rfl; have hfz19_0 := blk_frozen BK1215.out 0; have hfz19_1 := blk_frozen BK1215.out 1; have hfz19_2 := blk_frozen BK1215.out 2; have hfz19_3 := blk_frozen BK1215.out 3; have hfz19_4 := blk_frozen BK1215.out 4; have hfz19_5 := blk_frozen BK1215.out 5; have hfz19_6 := blk_frozen BK1215.out 6; obtain ⟨Ao20, co20, eo20⟩ := Kd.R_slice HO1213.out; subst eo20))
  (try simp only [Act.put, p1_, p2_, p3_])
  go_cut [37] (fun v37 wc => ∃ (kq : Nat) (x37_6 : Bool), v37 = .bool x37_6 ∧ Aside0 (laws_FnExactReadBatch.j0 kq l0 t1200 t1202 t1214 x37_6 t1191 t1192 t1193 t1194 t1195 t1196 t1197 t1205 t1206 t1207 t1208 t1209 t1210 t1211 = some r) ∧ Aside0 (kq ≤ k) ∧ Aside0 (Kd.R (Kd.int .u8) 5 wc w.heap.size (fun _ => True) (.slice Ao15 t1202.length co15) t1202) ∧ Aside0 (Kd.R k161 161 wc w.heap.size (fun k_ => some k_ ≠ ((.slice Ao20 t1211.length co20) : Value).ownBlock) (.slice Ao13 t1197.length co13) t1197) ∧ Aside0 (Kd.R k161 161 wc w.heap.size (fun k_ => some k_ ≠ ((.slice Ao13 t1197.length co13) : Value).ownBlock) (.slice Ao20 t1211.length co20) t1211) ∧ Aside0 (wc.heap[gb1201]? = some (.cells #[.bool t1191, .int .i64 t1192, .int .i64 t1193, .int .i64 t1194, .int .i64 t1195, .string t1196, (.slice Ao13 t1197.length co13)] 67 (0, 0))) ∧ Aside0 (wc.heap[gb1215]? = some (.cells #[.bool t1205, .int .i64 t1206, .int .i64 t1207, .int .i64 t1208, .int .i64 t1209, .string t1210, (.slice Ao20 t1211.length co20)] 67 (0, 0))) ∧ Aside0 (Below w.heap.size w wc))
  case first =>
   have H := HC7.out
   clear HC7
   replace H := Option.bind_eq_some_iff.mp H
   obtain ⟨t1216, A210, H⟩ := H
   replace H : (if t1216 = true then (laws_FnExactReadBatch.j0 k l0 t1200 t1202 t1214 (t1214 != t1200) t1191 t1192 t1193 t1194 t1195 t1196 t1197 t1205 t1206 t1207 t1208 t1209 t1210 t1211) else (laws_FnExactReadBatch.j0 k l0 t1200 t1202 t1214 true t1191 t1192 t1193 t1194 t1195 t1196 t1197 t1205 t1206 t1207 t1208 t1209 t1210 t1211)) = some r := H
   have A21 := am_ A210
   clear A210
   by_cases c22 : t1216 = true
   ·subst c22
    have H1 : (laws_FnExactReadBatch.j0 k l0 t1200 t1202 t1214 (t1214 != t1200) t1191 t1192 t1193 t1194 t1195 t1196 t1197 t1205 t1206 t1207 t1208 t1209 t1210 t1211) = some r := by rw [if_pos rfl] at H; exact H
    clear H
    have H := H1
    clear H1
    have H' := am_ H
    clear H
    have hnb23 := NB1215_1201.out
    have hnc23 := NB1201_1215.out
    have hcz24_0 : w17.cell? ⟨gb1215, 0, none⟩ = some (.bool false) := (blk_cell BK1215.out 0).trans rfl
    have hcz24_1 : w17.cell? ⟨gb1215, 1, none⟩ = some (.int .i64 0) := (blk_cell BK1215.out 1).trans rfl
    have hcz24_2 : w17.cell? ⟨gb1215, 2, none⟩ = some (.int .i64 0) := (blk_cell BK1215.out 2).trans rfl
    have hcz24_3 : w17.cell? ⟨gb1215, 3, none⟩ = some (.int .i64 0) := (blk_cell BK1215.out 3).trans rfl
    have hcz24_4 : w17.cell? ⟨gb1215, 4, none⟩ = some (.int .i64 0) := (blk_cell BK1215.out 4).trans rfl
    have hcz24_5 : w17.cell? ⟨gb1215, 5, none⟩ = some (.string (⟨#[]⟩ : ByteArray)) := (blk_cell BK1215.out 5).trans rfl
    have hcz24_6 : w17.cell? ⟨gb1215, 6, none⟩ = some (.slice none 0 0) := (blk_cell BK1215.out 6).trans rfl
    have hfz24_0 := blk_frozen BK1215.out 0
    have hfz24_1 := blk_frozen BK1215.out 1
    have hfz24_2 := blk_frozen BK1215.out 2
    have hfz24_3 := blk_frozen BK1215.out 3
    have hfz24_4 := blk_frozen BK1215.out 4
    have hfz24_5 := blk_frozen BK1215.out 5
    have hfz24_6 := blk_frozen BK1215.out 6
    have hcz25_0 : w17.cell? ⟨gb1201, 0, none⟩ = some (.bool t1191) := (blk_cell BK1201.out 0).trans rfl
    have hcz25_1 : w17.cell? ⟨gb1201, 1, none⟩ = some (.int .i64 t1192) := (blk_cell BK1201.out 1).trans rfl
    have hcz25_2 : w17.cell? ⟨gb1201, 2, none⟩ = some (.int .i64 t1193) := (blk_cell BK1201.out 2).trans rfl
    have hcz25_3 : w17.cell? ⟨gb1201, 3, none⟩ = some (.int .i64 t1194) := (blk_cell BK1201.out 3).trans rfl
    have hcz25_4 : w17.cell? ⟨gb1201, 4, none⟩ = some (.int .i64 t1195) := (blk_cell BK1201.out 4).trans rfl
    have hcz25_5 : w17.cell? ⟨gb1201, 5, none⟩ = some (.string t1196) := (blk_cell BK1201.out 5).trans rfl
    have hcz25_6 : w17.cell? ⟨gb1201, 6, none⟩ = some (.slice Ao13 t1197.length co13) := (blk_cell BK1201.out 6).trans rfl
    have hfz25_0 := blk_frozen BK1201.out 0
    have hfz25_1 := blk_frozen BK1201.out 1
    have hfz25_2 := blk_frozen BK1201.out 2
    have hfz25_3 := blk_frozen BK1201.out 3
    have hfz25_4 := blk_frozen BK1201.out 4
    have hfz25_5 := blk_frozen BK1201.out 5
    have hfz25_6 := blk_frozen BK1201.out 6
    go_wp2_with (first | ((with_reducible refine gate_callee (f := 46) rfl ?_); refine goesL_ (some 31) rfl rfl Try.func46 (by kernel_rfl) rfl #[.agg #[.bool t1205, .int .i64 t1206, .int .i64 t1207, .int .i64 t1208, .int .i64 t1209, .string t1210, .slice Ao20 t1211.length co20], .agg #[.bool t1191, .int .i64 t1192, .int .i64 t1193, .int .i64 t1194, .int .i64 t1195, .string t1196, .slice Ao13 t1197.length co13]] rfl (by (try simp only [m1_, m2_, m3_]); first | done | rfl | (simp only [d1_, d2_]; rfl)) ?_; (with_reducible refine (laws_eqBatch.calls k t1205 t1206 t1207 t1208 t1209 t1210 _ _ t1211 t1191 t1192 t1193 t1194 t1195 t1196 _ _ t1197 true _ ?side1 ?side2 ?side3 ?side4 A21.out).mono ?_); (case side1 => refine (Kd.R_reads' (e := 161) (base := w.heap.size) (ok := fun k_ => (True ∧ some k_ ≠ (.slice Ao13 t1197.length co13 : Value).ownBlock)) (n := t1211.length) (c := co20) ?_).2.2; exact (by (with_reducible repeat (first | apply r1_ | apply r2_ | apply r3_)); exact (Kd.R_mono (Kd.Rf (Kd.Rf (Kd.Rf (Kd.Rf (Kd.Rf (Kd.Rf (Kd.Rf (Kd.R_types HO1213.out BK1215.out (by decide))))))))) (fun _ h_ => h_.1)))); (case side2 => exact (Kd.R_reads' HO1213.out).2.1); (case side3 => refine (Kd.R_reads' (e := 161) (base := w.heap.size) (ok := fun k_ => (True ∧ some k_ ≠ (.slice Ao20 t1211.length co20 : Value).ownBlock)) (n := t1197.length) (c := co13) ?_).2.2; exact (by (with_reducible repeat (first | apply r1_ | apply r2_ | apply r3_)); exact (Kd.R_mono (Kd.Rf (Kd.Rf (Kd.Rf (Kd.Rf (Kd.Rf (Kd.Rf (Kd.Rf (Kd.R_types HO1199.out BK1215.out (by decide))))))))) (fun _ h_ => h_.1)))); (case side4 => exact (Kd.R_reads' HO1199.out).2.1); rintro e w26 ⟨rfl, hb⟩; refine ⟨_, rfl, ?_⟩; have n0_ := am_ (Kd.R_below (by (with_reducible repeat (first | apply r1_ | apply r2_ | apply r3_)); exact (Kd.R_mono (Kd.Rf (Kd.Rf (Kd.Rf (Kd.Rf (Kd.Rf (Kd.Rf (Kd.Rf (Kd.R_types HO1190.out BK1215.out (by decide))))))))) (fun _ h_ => h_.1))) hb); have n1_ := am_ (Kd.R_below (by (with_reducible repeat (first | apply r1_ | apply r2_ | apply r3_)); exact (Kd.R_mono (Kd.Rf (Kd.Rf (Kd.Rf (Kd.Rf (Kd.Rf (Kd.Rf (Kd.Rf (Kd.R_types HO1199.out BK1215.out (by decide))))))))) (fun _ h_ => h_.1))) hb); have n2_ := am_ (Kd.R_below (by (with_reducible repeat (first | apply r1_ | apply r2_ | apply r3_)); exact (Kd.R_mono (Kd.Rf (Kd.Rf (Kd.Rf (Kd.Rf (Kd.Rf (Kd.Rf (Kd.Rf (Kd.R_types HO1204.out BK1215.out (by decide))))))))) (fun _ h_ => h_.1))) hb); have n3_ := am_ (Kd.R_below (by (with_reducible repeat (first | apply r1_ | apply r2_ | apply r3_)); exact (Kd.R_mono (Kd.Rf (Kd.Rf (Kd.Rf (Kd.Rf (Kd.Rf (Kd.Rf (Kd.Rf (Kd.R_types HO1213.out BK1215.out (by decide))))))))) (fun _ h_ => h_.1))) hb); have n4_ := am_ (blk_below (g := gb1201) (o := .cells #[.bool t1191, .int .i64 t1192, .int .i64 t1193, .int .i64 t1194, .int .i64 t1195, .string t1196, .slice Ao13 t1197.length co13] 67 (0, 0)) (by (with_reducible repeat (first | apply k1_ | apply k2_ | apply k3_)); refine blk_far ?_ NB1201_1215.out _; (with_reducible repeat (first | apply k1_ | apply k2_ | apply k3_)); refine blk_far ?_ NB1201_1215.out _; (with_reducible repeat (first | apply k1_ | apply k2_ | apply k3_)); refine blk_far ?_ NB1201_1215.out _; (with_reducible repeat (first | apply k1_ | apply k2_ | apply k3_)); refine blk_far ?_ NB1201_1215.out _; (with_reducible repeat (first | apply k1_ | apply k2_ | apply k3_)); refine blk_far ?_ NB1201_1215.out _; (with_reducible repeat (first | apply k1_ | apply k2_ | apply k3_)); refine blk_far ?_ NB1201_1215.out _; (with_reducible repeat (first | apply k1_ | apply k2_ | apply k3_)); refine blk_far ?_ NB1201_1215.out _; (with_reducible repeat (first | apply k1_ | apply k2_ | apply k3_)); exact BK1201.out) hb); have n5_ := am_ (blk_below (g := gb1215) (o := .cells #[.bool t1205, .int .i64 t1206, .int .i64 t1207, .int .i64 t1208, .int .i64 t1209, .string t1210, .slice Ao20 t1211.length co20] 67 (0, 0)) (by (with_reducible repeat (first | apply k1_ | apply k2_ | apply k3_)); refine blk_put (cs := #[.bool t1205, .int .i64 t1206, .int .i64 t1207, .int .i64 t1208, .int .i64 t1209, .string t1210, .slice none 0 0]) ?_ 6 _ rfl; (with_reducible repeat (first | apply k1_ | apply k2_ | apply k3_)); refine blk_put (cs := #[.bool t1205, .int .i64 t1206, .int .i64 t1207, .int .i64 t1208, .int .i64 t1209, .string (⟨#[]⟩ : ByteArray), .slice none 0 0]) ?_ 5 _ rfl; (with_reducible repeat (first | apply k1_ | apply k2_ | apply k3_)); refine blk_put (cs := #[.bool t1205, .int .i64 t1206, .int .i64 t1207, .int .i64 t1208, .int .i64 0, .string (⟨#[]⟩ : ByteArray), .slice none 0 0]) ?_ 4 _ rfl; (with_reducible repeat (first | apply k1_ | apply k2_ | apply k3_)); refine blk_put (cs := #[.bool t1205, .int .i64 t1206, .int .i64 t1207, .int .i64 0, .int .i64 0, .string (⟨#[]⟩ : ByteArray), .slice none 0 0]) ?_ 3 _ rfl; (with_reducible repeat (first | apply k1_ | apply k2_ | apply k3_)); refine blk_put (cs := #[.bool t1205, .int .i64 t1206, .int .i64 0, .int .i64 0, .int .i64 0, .string (⟨#[]⟩ : ByteArray), .slice none 0 0]) ?_ 2 _ rfl; (with_reducible repeat (first | apply k1_ | apply k2_ | apply k3_)); refine blk_put (cs := #[.bool t1205, .int .i64 0, .int .i64 0, .int .i64 0, .int .i64 0, .string (⟨#[]⟩ : ByteArray), .slice none 0 0]) ?_ 1 _ rfl; (with_reducible repeat (first | apply k1_ | apply k2_ | apply k3_)); refine blk_put (cs := #[.bool false, .int .i64 0, .int .i64 0, .int .i64 0, .int .i64 0, .string (⟨#[]⟩ : ByteArray), .slice none 0 0]) ?_ 0 _ rfl; (with_reducible repeat (first | apply k1_ | apply k2_ | apply k3_)); exact BK1215.out) hb); have n6_ := am_ (below_step (by repeat (first | (with_reducible first | exact HB.out | apply b1_ | apply b2_ | apply b3_ | refine below_set ?_ GE1201.out | refine below_set ?_ GE1215.out) | exact HB.out)) hb); clear HO1190; clear HO1199; clear HO1204; clear HO1213; clear BK1201; clear BK1215; clear HB; have HO1190 := n0_; have HO1199 := n1_; have HO1204 := n2_; have HO1213 := n3_; have BK1201 := n4_; have BK1215 := n5_; have HB := n6_; clear n0_ n1_ n2_ n3_ n4_ n5_ n6_; (try clear hb); (try clear hb2); (try clear hk); (try clear hi)))
    go_meet
    case rel => exact ⟨_, ((t1214 != t1200)), (by first | rfl | (simp; done) | (simp [*]; done)), H', ⟨by first | omega | exact Nat.le_refl _⟩, ⟨by (with_reducible repeat (first | apply r1_ | apply r2_ | apply r3_)); exact Kd.R_mono HO1204.out (fun _ hk => trivial)⟩, ⟨by (with_reducible repeat (first | apply r1_ | apply r2_ | apply r3_)); exact Kd.R_mono HO1199.out (fun _ hk => hk.2)⟩, ⟨by (with_reducible repeat (first | apply r1_ | apply r2_ | apply r3_)); exact Kd.R_mono HO1213.out (fun _ hk => hk.2)⟩, ⟨by (with_reducible repeat (first | apply k1_ | apply k2_ | apply k3_)); exact BK1201.out⟩, ⟨by (with_reducible repeat (first | apply k1_ | apply k2_ | apply k3_)); exact BK1215.out⟩, ⟨by repeat (first | (with_reducible first | exact HB.out | apply b1_ | apply b2_ | apply b3_ | refine below_set ?_ GE1201.out | refine below_set ?_ GE1215.out) | exact HB.out)⟩⟩
   ·replace c22 := Bool.eq_false_iff.mpr c22
    subst c22
    have H1 : (laws_FnExactReadBatch.j0 k l0 t1200 t1202 t1214 true t1191 t1192 t1193 t1194 t1195 t1196 t1197 t1205 t1206 t1207 t1208 t1209 t1210 t1211) = some r := by rw [if_neg (show ¬ (false = true) by decide)] at H; exact H
    clear H
    have H := H1
    clear H1
    have H' := am_ H
    clear H
    have hnb27 := NB1215_1201.out
    have hnc27 := NB1201_1215.out
    have hcz28_0 : w17.cell? ⟨gb1215, 0, none⟩ = some (.bool false) := (blk_cell BK1215.out 0).trans rfl
    have hcz28_1 : w17.cell? ⟨gb1215, 1, none⟩ = some (.int .i64 0) := (blk_cell BK1215.out 1).trans rfl
    have hcz28_2 : w17.cell? ⟨gb1215, 2, none⟩ = some (.int .i64 0) := (blk_cell BK1215.out 2).trans rfl
    have hcz28_3 : w17.cell? ⟨gb1215, 3, none⟩ = some (.int .i64 0) := (blk_cell BK1215.out 3).trans rfl
    have hcz28_4 : w17.cell? ⟨gb1215, 4, none⟩ = some (.int .i64 0) := (blk_cell BK1215.out 4).trans rfl
    have hcz28_5 : w17.cell? ⟨gb1215, 5, none⟩ = some (.string (⟨#[]⟩ : ByteArray)) := (blk_cell BK1215.out 5).trans rfl
    have hcz28_6 : w17.cell? ⟨gb1215, 6, none⟩ = some (.slice none 0 0) := (blk_cell BK1215.out 6).trans rfl
    have hfz28_0 := blk_frozen BK1215.out 0
    have hfz28_1 := blk_frozen BK1215.out 1
    have hfz28_2 := blk_frozen BK1215.out 2
    have hfz28_3 := blk_frozen BK1215.out 3
    have hfz28_4 := blk_frozen BK1215.out 4
    have hfz28_5 := blk_frozen BK1215.out 5
    have hfz28_6 := blk_frozen BK1215.out 6
    have hcz29_0 : w17.cell? ⟨gb1201, 0, none⟩ = some (.bool t1191) := (blk_cell BK1201.out 0).trans rfl
    have hcz29_1 : w17.cell? ⟨gb1201, 1, none⟩ = some (.int .i64 t1192) := (blk_cell BK1201.out 1).trans rfl
    have hcz29_2 : w17.cell? ⟨gb1201, 2, none⟩ = some (.int .i64 t1193) := (blk_cell BK1201.out 2).trans rfl
    have hcz29_3 : w17.cell? ⟨gb1201, 3, none⟩ = some (.int .i64 t1194) := (blk_cell BK1201.out 3).trans rfl
    have hcz29_4 : w17.cell? ⟨gb1201, 4, none⟩ = some (.int .i64 t1195) := (blk_cell BK1201.out 4).trans rfl
    have hcz29_5 : w17.cell? ⟨gb1201, 5, none⟩ = some (.string t1196) := (blk_cell BK1201.out 5).trans rfl
    have hcz29_6 : w17.cell? ⟨gb1201, 6, none⟩ = some (.slice Ao13 t1197.length co13) := (blk_cell BK1201.out 6).trans rfl
    have hfz29_0 := blk_frozen BK1201.out 0
    have hfz29_1 := blk_frozen BK1201.out 1
    have hfz29_2 := blk_frozen BK1201.out 2
    have hfz29_3 := blk_frozen BK1201.out 3
    have hfz29_4 := blk_frozen BK1201.out 4
    have hfz29_5 := blk_frozen BK1201.out 5
    have hfz29_6 := blk_frozen BK1201.out 6
    go_wp2_with (first | ((with_reducible refine gate_callee (f := 46) rfl ?_); refine goesL_ (some 31) rfl rfl Try.func46 (by kernel_rfl) rfl #[.agg #[.bool t1205, .int .i64 t1206, .int .i64 t1207, .int .i64 t1208, .int .i64 t1209, .string t1210, .slice Ao20 t1211.length co20], .agg #[.bool t1191, .int .i64 t1192, .int .i64 t1193, .int .i64 t1194, .int .i64 t1195, .string t1196, .slice Ao13 t1197.length co13]] rfl (by (try simp only [m1_, m2_, m3_]); first | done | rfl | (simp only [d1_, d2_]; rfl)) ?_; (with_reducible refine (laws_eqBatch.calls k t1205 t1206 t1207 t1208 t1209 t1210 _ _ t1211 t1191 t1192 t1193 t1194 t1195 t1196 _ _ t1197 false _ ?side1 ?side2 ?side3 ?side4 A21.out).mono ?_); (case side1 => refine (Kd.R_reads' (e := 161) (base := w.heap.size) (ok := fun k_ => (True ∧ some k_ ≠ (.slice Ao13 t1197.length co13 : Value).ownBlock)) (n := t1211.length) (c := co20) ?_).2.2; exact (by (with_reducible repeat (first | apply r1_ | apply r2_ | apply r3_)); exact (Kd.R_mono (Kd.Rf (Kd.Rf (Kd.Rf (Kd.Rf (Kd.Rf (Kd.Rf (Kd.Rf (Kd.R_types HO1213.out BK1215.out (by decide))))))))) (fun _ h_ => h_.1)))); (case side2 => exact (Kd.R_reads' HO1213.out).2.1); (case side3 => refine (Kd.R_reads' (e := 161) (base := w.heap.size) (ok := fun k_ => (True ∧ some k_ ≠ (.slice Ao20 t1211.length co20 : Value).ownBlock)) (n := t1197.length) (c := co13) ?_).2.2; exact (by (with_reducible repeat (first | apply r1_ | apply r2_ | apply r3_)); exact (Kd.R_mono (Kd.Rf (Kd.Rf (Kd.Rf (Kd.Rf (Kd.Rf (Kd.Rf (Kd.Rf (Kd.R_types HO1199.out BK1215.out (by decide))))))))) (fun _ h_ => h_.1)))); (case side4 => exact (Kd.R_reads' HO1199.out).2.1); rintro e w30 ⟨rfl, hb⟩; refine ⟨_, rfl, ?_⟩; have n0_ := am_ (Kd.R_below (by (with_reducible repeat (first | apply r1_ | apply r2_ | apply r3_)); exact (Kd.R_mono (Kd.Rf (Kd.Rf (Kd.Rf (Kd.Rf (Kd.Rf (Kd.Rf (Kd.Rf (Kd.R_types HO1190.out BK1215.out (by decide))))))))) (fun _ h_ => h_.1))) hb); have n1_ := am_ (Kd.R_below (by (with_reducible repeat (first | apply r1_ | apply r2_ | apply r3_)); exact (Kd.R_mono (Kd.Rf (Kd.Rf (Kd.Rf (Kd.Rf (Kd.Rf (Kd.Rf (Kd.Rf (Kd.R_types HO1199.out BK1215.out (by decide))))))))) (fun _ h_ => h_.1))) hb); have n2_ := am_ (Kd.R_below (by (with_reducible repeat (first | apply r1_ | apply r2_ | apply r3_)); exact (Kd.R_mono (Kd.Rf (Kd.Rf (Kd.Rf (Kd.Rf (Kd.Rf (Kd.Rf (Kd.Rf (Kd.R_types HO1204.out BK1215.out (by decide))))))))) (fun _ h_ => h_.1))) hb); have n3_ := am_ (Kd.R_below (by (with_reducible repeat (first | apply r1_ | apply r2_ | apply r3_)); exact (Kd.R_mono (Kd.Rf (Kd.Rf (Kd.Rf (Kd.Rf (Kd.Rf (Kd.Rf (Kd.Rf (Kd.R_types HO1213.out BK1215.out (by decide))))))))) (fun _ h_ => h_.1))) hb); have n4_ := am_ (blk_below (g := gb1201) (o := .cells #[.bool t1191, .int .i64 t1192, .int .i64 t1193, .int .i64 t1194, .int .i64 t1195, .string t1196, .slice Ao13 t1197.length co13] 67 (0, 0)) (by (with_reducible repeat (first | apply k1_ | apply k2_ | apply k3_)); refine blk_far ?_ NB1201_1215.out _; (with_reducible repeat (first | apply k1_ | apply k2_ | apply k3_)); refine blk_far ?_ NB1201_1215.out _; (with_reducible repeat (first | apply k1_ | apply k2_ | apply k3_)); refine blk_far ?_ NB1201_1215.out _; (with_reducible repeat (first | apply k1_ | apply k2_ | apply k3_)); refine blk_far ?_ NB1201_1215.out _; (with_reducible repeat (first | apply k1_ | apply k2_ | apply k3_)); refine blk_far ?_ NB1201_1215.out _; (with_reducible repeat (first | apply k1_ | apply k2_ | apply k3_)); refine blk_far ?_ NB1201_1215.out _; (with_reducible repeat (first | apply k1_ | apply k2_ | apply k3_)); refine blk_far ?_ NB1201_1215.out _; (with_reducible repeat (first | apply k1_ | apply k2_ | apply k3_)); exact BK1201.out) hb); have n5_ := am_ (blk_below (g := gb1215) (o := .cells #[.bool t1205, .int .i64 t1206, .int .i64 t1207, .int .i64 t1208, .int .i64 t1209, .string t1210, .slice Ao20 t1211.length co20] 67 (0, 0)) (by (with_reducible repeat (first | apply k1_ | apply k2_ | apply k3_)); refine blk_put (cs := #[.bool t1205, .int .i64 t1206, .int .i64 t1207, .int .i64 t1208, .int .i64 t1209, .string t1210, .slice none 0 0]) ?_ 6 _ rfl; (with_reducible repeat (first | apply k1_ | apply k2_ | apply k3_)); refine blk_put (cs := #[.bool t1205, .int .i64 t1206, .int .i64 t1207, .int .i64 t1208, .int .i64 t1209, .string (⟨#[]⟩ : ByteArray), .slice none 0 0]) ?_ 5 _ rfl; (with_reducible repeat (first | apply k1_ | apply k2_ | apply k3_)); refine blk_put (cs := #[.bool t1205, .int .i64 t1206, .int .i64 t1207, .int .i64 t1208, .int .i64 0, .string (⟨#[]⟩ : ByteArray), .slice none 0 0]) ?_ 4 _ rfl; (with_reducible repeat (first | apply k1_ | apply k2_ | apply k3_)); refine blk_put (cs := #[.bool t1205, .int .i64 t1206, .int .i64 t1207, .int .i64 0, .int .i64 0, .string (⟨#[]⟩ : ByteArray), .slice none 0 0]) ?_ 3 _ rfl; (with_reducible repeat (first | apply k1_ | apply k2_ | apply k3_)); refine blk_put (cs := #[.bool t1205, .int .i64 t1206, .int .i64 0, .int .i64 0, .int .i64 0, .string (⟨#[]⟩ : ByteArray), .slice none 0 0]) ?_ 2 _ rfl; (with_reducible repeat (first | apply k1_ | apply k2_ | apply k3_)); refine blk_put (cs := #[.bool t1205, .int .i64 0, .int .i64 0, .int .i64 0, .int .i64 0, .string (⟨#[]⟩ : ByteArray), .slice none 0 0]) ?_ 1 _ rfl; (with_reducible repeat (first | apply k1_ | apply k2_ | apply k3_)); refine blk_put (cs := #[.bool false, .int .i64 0, .int .i64 0, .int .i64 0, .int .i64 0, .string (⟨#[]⟩ : ByteArray), .slice none 0 0]) ?_ 0 _ rfl; (with_reducible repeat (first | apply k1_ | apply k2_ | apply k3_)); exact BK1215.out) hb); have n6_ := am_ (below_step (by repeat (first | (with_reducible first | exact HB.out | apply b1_ | apply b2_ | apply b3_ | refine below_set ?_ GE1201.out | refine below_set ?_ GE1215.out) | exact HB.out)) hb); clear HO1190; clear HO1199; clear HO1204; clear HO1213; clear BK1201; clear BK1215; clear HB; have HO1190 := n0_; have HO1199 := n1_; have HO1204 := n2_; have HO1213 := n3_; have BK1201 := n4_; have BK1215 := n5_; have HB := n6_; clear n0_ n1_ n2_ n3_ n4_ n5_ n6_; (try clear hb); (try clear hb2); (try clear hk); (try clear hi)))
    go_meet
    case rel => exact ⟨_, (true), (by first | rfl | (simp; done) | (simp [*]; done)), H', ⟨by first | omega | exact Nat.le_refl _⟩, ⟨by (with_reducible repeat (first | apply r1_ | apply r2_ | apply r3_)); exact Kd.R_mono HO1204.out (fun _ hk => trivial)⟩, ⟨by (with_reducible repeat (first | apply r1_ | apply r2_ | apply r3_)); exact Kd.R_mono HO1199.out (fun _ hk => hk.2)⟩, ⟨by (with_reducible repeat (first | apply r1_ | apply r2_ | apply r3_)); exact Kd.R_mono HO1213.out (fun _ hk => hk.2)⟩, ⟨by (with_reducible repeat (first | apply k1_ | apply k2_ | apply k3_)); exact BK1201.out⟩, ⟨by (with_reducible repeat (first | apply k1_ | apply k2_ | apply k3_)); exact BK1215.out⟩, ⟨by repeat (first | (with_reducible first | exact HB.out | apply b1_ | apply b2_ | apply b3_ | refine below_set ?_ GE1201.out | refine below_set ?_ GE1215.out) | exact HB.out)⟩⟩
  case rest =>
   clear HC7
   try clear c1
   try clear c2
   try clear c2b0
   try clear c2b1
   try clear p2
   try clear c4
   try clear c8
   try clear c18
   try clear c22
   try clear c23
   try clear c27
   try clear hcz12_0
   try clear hcz12_1
   try clear hcz12_2
   try clear hcz12_3
   try clear hcz12_4
   try clear hcz12_5
   try clear hcz12_6
   try clear hcz19_0
   try clear hcz19_1
   try clear hcz19_2
   try clear hcz19_3
   try clear hcz19_4
   try clear hcz19_5
   try clear hcz19_6
   try clear hcz24_0
   try clear hcz24_1
   try clear hcz24_2
   try clear hcz24_3
   try clear hcz24_4
   try clear hcz24_5
   try clear hcz24_6
   try clear hcz25_0
   try clear hcz25_1
   try clear hcz25_2
   try clear hcz25_3
   try clear hcz25_4
   try clear hcz25_5
   try clear hcz25_6
   try clear hcz28_0
   try clear hcz28_1
   try clear hcz28_2
   try clear hcz28_3
   try clear hcz28_4
   try clear hcz28_5
   try clear hcz28_6
   try clear hcz29_0
   try clear hcz29_1
   try clear hcz29_2
   try clear hcz29_3
   try clear hcz29_4
   try clear hcz29_5
   try clear hcz29_6
   try clear hfz12_0
   try clear hfz12_1
   try clear hfz12_2
   try clear hfz12_3
   try clear hfz12_4
   try clear hfz12_5
   try clear hfz12_6
   try clear hfz19_0
   try clear hfz19_1
   try clear hfz19_2
   try clear hfz19_3
   try clear hfz19_4
   try clear hfz19_5
   try clear hfz19_6
   try clear hfz24_0
   try clear hfz24_1
   try clear hfz24_2
   try clear hfz24_3
   try clear hfz24_4
   try clear hfz24_5
   try clear hfz24_6
   try clear hfz25_0
   try clear hfz25_1
   try clear hfz25_2
   try clear hfz25_3
   try clear hfz25_4
   try clear hfz25_5
   try clear hfz25_6
   try clear hfz28_0
   try clear hfz28_1
   try clear hfz28_2
   try clear hfz28_3
   try clear hfz28_4
   try clear hfz28_5
   try clear hfz28_6
   try clear hfz29_0
   try clear hfz29_1
   try clear hfz29_2
   try clear hfz29_3
   try clear hfz29_4
   try clear hfz29_5
   try clear hfz29_6
   obtain ⟨kq, x37_6, rfl, HA, HJ6, HO_5, HO_1202006, HO_1216006, BK1201, BK1215, HB⟩ := hcut
   cases kq with
   | zero => exact absurd HA.out (by simp [laws_FnExactReadBatch.j0])
   | succ kj6 =>
    have H := HA.out
    clear HA
    simp only [laws_FnExactReadBatch.j0] at H
    by_cases c31 : x37_6 = true
    ·subst c31
     have H1 : (some false) = some r := by rw [if_pos rfl] at H; exact H
     clear H
     have H := H1
     clear H1
     obtain rfl := Option.some.inj H
     go_wp2
     go_ret
     exact ⟨by first | rfl | (simp [e1_, e2_] <;> rfl) | (simp [*, e1_, e2_] <;> rfl) | (simp [e3_, e4_]; done) | (simp [*, e3_, e4_]; done), by repeat (first | (with_reducible first | exact HB.out | apply b1_ | apply b2_ | apply b3_ | refine below_set ?_ GE1201.out | refine below_set ?_ GE1215.out) | exact HB.out)⟩
    ·replace c31 := Bool.eq_false_iff.mpr c31
     subst c31
     have H1 : ((laws_toByteS.f kj6 l0).bind fun t1217 => ((laws_eqByteS.f kj6 t1202 t1217).bind fun t1220 => (if t1220 = true then ((laws_markByteS.f kj6 t1202 1).bind fun bt1221 => (if bt1221.1 < 0 then (laws_FnExactReadBatch.j1 kj6 l0 t1200 true t1191 t1192 t1193 t1194 t1195 t1196 t1197 t1205 t1206 t1207 t1208 t1209 t1210 t1211) else ((laws_eqBatch.f kj6 t1205 t1206 t1207 t1208 t1209 t1210 t1211 t1191 t1192 t1193 t1194 t1195 t1196 t1197).bind fun t1223 => (if t1223 = true then (laws_FnExactReadBatch.j1 kj6 l0 t1200 (t1214 != t1200) t1191 t1192 t1193 t1194 t1195 t1196 t1197 t1205 t1206 t1207 t1208 t1209 t1210 t1211) else (laws_FnExactReadBatch.j1 kj6 l0 t1200 true t1191 t1192 t1193 t1194 t1195 t1196 t1197 t1205 t1206 t1207 t1208 t1209 t1210 t1211))))) else (some false)))) = some r := by rw [if_neg (show ¬ (false = true) by decide)] at H; exact H
     clear H
     have H := H1
     clear H1
     replace H := Option.bind_eq_some_iff.mp H
     obtain ⟨t1217, A320, H⟩ := H
     replace H : ((laws_eqByteS.f kj6 t1202 t1217).bind fun t1220 => (if t1220 = true then ((laws_markByteS.f kj6 t1202 1).bind fun bt1221 => (if bt1221.1 < 0 then (laws_FnExactReadBatch.j1 kj6 l0 t1200 true t1191 t1192 t1193 t1194 t1195 t1196 t1197 t1205 t1206 t1207 t1208 t1209 t1210 t1211) else ((laws_eqBatch.f kj6 t1205 t1206 t1207 t1208 t1209 t1210 t1211 t1191 t1192 t1193 t1194 t1195 t1196 t1197).bind fun t1223 => (if t1223 = true then (laws_FnExactReadBatch.j1 kj6 l0 t1200 (t1214 != t1200) t1191 t1192 t1193 t1194 t1195 t1196 t1197 t1205 t1206 t1207 t1208 t1209 t1210 t1211) else (laws_FnExactReadBatch.j1 kj6 l0 t1200 true t1191 t1192 t1193 t1194 t1195 t1196 t1197 t1205 t1206 t1207 t1208 t1209 t1210 t1211))))) else (some false))) = some r := H
     have A32 := am_ A320
     clear A320
     replace H := Option.bind_eq_some_iff.mp H
     obtain ⟨t1220, A330, H⟩ := H
     replace H : (if t1220 = true then ((laws_markByteS.f kj6 t1202 1).bind fun bt1221 => (if bt1221.1 < 0 then (laws_FnExactReadBatch.j1 kj6 l0 t1200 true t1191 t1192 t1193 t1194 t1195 t1196 t1197 t1205 t1206 t1207 t1208 t1209 t1210 t1211) else ((laws_eqBatch.f kj6 t1205 t1206 t1207 t1208 t1209 t1210 t1211 t1191 t1192 t1193 t1194 t1195 t1196 t1197).bind fun t1223 => (if t1223 = true then (laws_FnExactReadBatch.j1 kj6 l0 t1200 (t1214 != t1200) t1191 t1192 t1193 t1194 t1195 t1196 t1197 t1205 t1206 t1207 t1208 t1209 t1210 t1211) else (laws_FnExactReadBatch.j1 kj6 l0 t1200 true t1191 t1192 t1193 t1194 t1195 t1196 t1197 t1205 t1206 t1207 t1208 t1209 t1210 t1211))))) else (some false)) = some r := H
     have A33 := am_ A330
     clear A330
     by_cases c34 : t1220 = true
     ·subst c34
      have H1 : ((laws_markByteS.f kj6 t1202 1).bind fun bt1221 => (if bt1221.1 < 0 then (laws_FnExactReadBatch.j1 kj6 l0 t1200 true t1191 t1192 t1193 t1194 t1195 t1196 t1197 t1205 t1206 t1207 t1208 t1209 t1210 t1211) else ((laws_eqBatch.f kj6 t1205 t1206 t1207 t1208 t1209 t1210 t1211 t1191 t1192 t1193 t1194 t1195 t1196 t1197).bind fun t1223 => (if t1223 = true then (laws_FnExactReadBatch.j1 kj6 l0 t1200 (t1214 != t1200) t1191 t1192 t1193 t1194 t1195 t1196 t1197 t1205 t1206 t1207 t1208 t1209 t1210 t1211) else (laws_FnExactReadBatch.j1 kj6 l0 t1200 true t1191 t1192 t1193 t1194 t1195 t1196 t1197 t1205 t1206 t1207 t1208 t1209 t1210 t1211))))) = some r := by rw [if_pos rfl] at H; exact H
      clear H
      have H := H1
      clear H1
      replace H := Option.bind_eq_some_iff.mp H
      obtain ⟨⟨t1221, t1222⟩, A350, H⟩ := H
      replace H : (if t1221 < 0 then (laws_FnExactReadBatch.j1 kj6 l0 t1200 true t1191 t1192 t1193 t1194 t1195 t1196 t1197 t1205 t1206 t1207 t1208 t1209 t1210 t1211) else ((laws_eqBatch.f kj6 t1205 t1206 t1207 t1208 t1209 t1210 t1211 t1191 t1192 t1193 t1194 t1195 t1196 t1197).bind fun t1223 => (if t1223 = true then (laws_FnExactReadBatch.j1 kj6 l0 t1200 (t1214 != t1200) t1191 t1192 t1193 t1194 t1195 t1196 t1197 t1205 t1206 t1207 t1208 t1209 t1210 t1211) else (laws_FnExactReadBatch.j1 kj6 l0 t1200 true t1191 t1192 t1193 t1194 t1195 t1196 t1197 t1205 t1206 t1207 t1208 t1209 t1210 t1211)))) = some r := H
      have A35 := am_ A350
      clear A350
      have HC36 := am_ H
      clear H
      go_upto_region 12 with (first | ((with_reducible refine gate_callee (f := 44) rfl ?_); refine goesL_ (some 40) rfl rfl Try.func44 (by kernel_rfl) rfl #[.slice A0 l0.length c0] rfl (by (try simp only [m1_, m2_, m3_]); first | done | rfl | (simp only [d1_, d2_]; rfl)) ?_; (with_reducible refine (laws_toByteS.calls kj6 _ _ l0 t1217 _ ?side1 ?side2 A32.out).mono ?_); (case side1 => repeat (first | exact (Kd.C_below HR0.out HB.out) | (with_reducible refine Kd.C_alloc ?_ _) | (with_reducible refine Kd.C_drewN ?_ _) | (with_reducible refine Kd.C_drew ?_))); (case side2 => exact HC0.out); rintro e w37 ⟨v1218, rfl, ho0, hb⟩; refine ⟨_, rfl, ?_⟩; have n0_ := am_ (Kd.R_elder' (by (with_reducible repeat (first | apply r1_ | apply r2_ | apply r3_)); exact HO_5.out) (Kd.R_base ho0) hb); have n1_ := am_ (Kd.R_below (by (with_reducible repeat (first | apply r1_ | apply r2_ | apply r3_)); exact HO_1202006.out) hb); have n2_ := am_ (Kd.R_below (by (with_reducible repeat (first | apply r1_ | apply r2_ | apply r3_)); exact HO_1216006.out) hb); have n3_ := am_ (Kd.R_lower (Kd.R_new' ho0 (Kd.R_lt (by (with_reducible repeat (first | apply r1_ | apply r2_ | apply r3_)); exact HO_5.out))) (below_size (by repeat (first | (with_reducible first | exact HB.out | apply b1_ | apply b2_ | apply b3_ | refine below_set ?_ GE1201.out | refine below_set ?_ GE1215.out) | exact HB.out)))); have n4_ := am_ (blk_below (g := gb1201) (o := .cells #[.bool t1191, .int .i64 t1192, .int .i64 t1193, .int .i64 t1194, .int .i64 t1195, .string t1196, .slice Ao13 t1197.length co13] 67 (0, 0)) (by (with_reducible repeat (first | apply k1_ | apply k2_ | apply k3_)); exact BK1201.out) hb); have n5_ := am_ (blk_below (g := gb1215) (o := .cells #[.bool t1205, .int .i64 t1206, .int .i64 t1207, .int .i64 t1208, .int .i64 t1209, .string t1210, .slice Ao20 t1211.length co20] 67 (0, 0)) (by (with_reducible repeat (first | apply k1_ | apply k2_ | apply k3_)); exact BK1215.out) hb); have n6_ := am_ (below_step (by repeat (first | (with_reducible first | exact HB.out | apply b1_ | apply b2_ | apply b3_ | refine below_set ?_ GE1201.out | refine below_set ?_ GE1215.out) | exact HB.out)) hb); clear HO_5; clear HO_1202006; clear HO_1216006; clear BK1201; clear BK1215; clear HB; have HO_5 := n0_; have HO_1202006 := n1_; have HO_1216006 := n2_; have HO1219 := n3_; have BK1201 := n4_; have BK1215 := n5_; have HB := n6_; clear n0_ n1_ n2_ n3_ n4_ n5_ n6_; (try clear hb); (try clear hb2); (try clear hk); (try clear hi); (try clear ho0); obtain ⟨Ao38, co38, eo38⟩ := Kd.R_slice HO1219.out; subst eo38) | ((with_reducible refine gate_callee (f := 15) rfl ?_); refine goesL_ (some 41) rfl rfl Try.func15 (by kernel_rfl) rfl #[.slice Ao15 t1202.length co15, .slice Ao38 t1217.length co38] rfl (by (try simp only [m1_, m2_, m3_]); first | done | rfl | (simp only [d1_, d2_]; rfl)) ?_; (with_reducible refine (laws_eqByteS.calls kj6 _ _ t1202 _ _ t1217 true _ ?side1 ?side2 ?side3 ?side4 A33.out).mono ?_); (case side1 => repeat (first | exact (Kd.R_reads' HO_5.out).2.2 | (with_reducible refine Kd.C_alloc ?_ _) | (with_reducible refine Kd.C_drewN ?_ _) | (with_reducible refine Kd.C_drew ?_))); (case side2 => exact (Kd.R_reads' HO_5.out).2.1); (case side3 => repeat (first | exact (Kd.R_reads' HO1219.out).2.2 | (with_reducible refine Kd.C_alloc ?_ _) | (with_reducible refine Kd.C_drewN ?_ _) | (with_reducible refine Kd.C_drew ?_))); (case side4 => exact (Kd.R_reads' HO1219.out).2.1); rintro e w' ⟨rfl, ⟨nd, rfl⟩⟩; refine ⟨_, rfl, ?_⟩) | ((with_reducible refine gate_callee (f := 18) rfl ?_); refine goesL_ (some 45) rfl rfl Try.func18 (by kernel_rfl) rfl #[.slice Ao15 t1202.length co15, .int .i64 1] rfl (by (try simp only [m1_, m2_, m3_]); first | done | rfl | (simp only [d1_, d2_]; rfl)) ?_; (with_reducible refine (laws_markByteS.calls kj6 (fun k_ => some k_ = (.slice Ao15 t1202.length co15 : Value).ownBlock) (.slice Ao15 t1202.length co15) t1202 1 t1221 t1222 w _ ?side1 ?side2 A35.out).mono ?_); (case side1 => repeat (first | (with_reducible first | exact HB.out | apply b1_ | apply b2_ | apply b3_ | refine below_set ?_ GE1201.out | refine below_set ?_ GE1215.out) | exact HB.out)); (case side2 => exact Kd.R_tight rfl HO_5.out); rintro e w39 ⟨rfl, hy0, hb, hkp⟩; refine ⟨_, rfl, ?_⟩; have n0_ := am_ (Kd.R_reok rfl hy0 (fun k_ e_ => HO_5.out.1 k_ e_)); have n1_ := am_ (Kd.R_mono (ok' := fun k_ => some k_ ≠ (.slice Ao20 t1211.length co20 : Value).ownBlock) (Kd.R_keptB ((Kd.R_apart' HO_1202006.out (Kd.R_typed HO_5.out) (by decide))) hkp (fun k_ hk_ hs_ => (hk_.2) hs_)) (fun k_ hk_ => hk_.1.1)); have n2_ := am_ (Kd.R_mono (ok' := fun k_ => some k_ ≠ (.slice Ao13 t1197.length co13 : Value).ownBlock) (Kd.R_keptB ((Kd.R_apart' HO_1216006.out (Kd.R_typed HO_5.out) (by decide))) hkp (fun k_ hk_ hs_ => (hk_.2) hs_)) (fun k_ hk_ => hk_.1.1)); have n3_ := am_ (blk_kept (by (with_reducible repeat (first | apply k1_ | apply k2_ | apply k3_)); exact BK1201.out) hkp (fun hs_ => (fun e_ => (Kd.R_ne HO_5.out BK1201.out (by decide)) e_) hs_)); have n4_ := am_ (blk_kept (by (with_reducible repeat (first | apply k1_ | apply k2_ | apply k3_)); exact BK1215.out) hkp (fun hs_ => (fun e_ => (Kd.R_ne HO_5.out BK1215.out (by decide)) e_) hs_)); have n5_ := am_ (Kd.R_mono (ok' := fun k_ => some k_ ≠ (.slice Ao15 t1202.length co15 : Value).ownBlock) (Kd.R_keptB (HO1219.out) hkp (fun k_ hk_ hs_ => (hk_.2) hs_)) (fun k_ hk_ => hk_.1.2)); have n6_ := am_ (hb); clear HO_5; clear HO_1202006; clear HO_1216006; clear BK1201; clear BK1215; clear HO1219; clear HB; have HO_5 := n0_; have HO_1202006 := n1_; have HO_1216006 := n2_; have BK1201 := n3_; have BK1215 := n4_; have HO1219 := n5_; have HB := n6_; clear n0_ n1_ n2_ n3_ n4_ n5_ n6_; (try clear hb); (try clear hkp); (try clear hy0)))
      (try simp only [Act.put, p1_, p2_, p3_])
      go_cut [58] (fun v58 wc => ∃ (kq : Nat) (x58_35 : Bool), v58 = .bool x58_35 ∧ Aside0 (laws_FnExactReadBatch.j1 kq l0 t1200 x58_35 t1191 t1192 t1193 t1194 t1195 t1196 t1197 t1205 t1206 t1207 t1208 t1209 t1210 t1211 = some r) ∧ Aside0 (kq ≤ kj6) ∧ Aside0 (Kd.R k161 161 wc w.heap.size (fun k_ => some k_ ≠ ((.slice Ao20 t1211.length co20) : Value).ownBlock) (.slice Ao13 t1197.length co13) t1197) ∧ Aside0 (Kd.R k161 161 wc w.heap.size (fun k_ => some k_ ≠ ((.slice Ao13 t1197.length co13) : Value).ownBlock) (.slice Ao20 t1211.length co20) t1211) ∧ Aside0 (wc.heap[gb1201]? = some (.cells #[.bool t1191, .int .i64 t1192, .int .i64 t1193, .int .i64 t1194, .int .i64 t1195, .string t1196, (.slice Ao13 t1197.length co13)] 67 (0, 0))) ∧ Aside0 (wc.heap[gb1215]? = some (.cells #[.bool t1205, .int .i64 t1206, .int .i64 t1207, .int .i64 t1208, .int .i64 t1209, .string t1210, (.slice Ao20 t1211.length co20)] 67 (0, 0))) ∧ Aside0 (Below w.heap.size w wc))
      case first =>
       have H := HC36.out
       clear HC36
       by_cases c40 : t1221 < 0
       ·rw [if_pos c40] at H
        have c40b0 : decide (t1221 < 0) = true := decide_eq_true c40
        clear c40
        (first | rw [c40b0] | (simp only [i64_w, i32_w]; rw [c40b0]) | skip)
        have H' := am_ H
        clear H
        go_wp2
        go_meet
        case rel => exact ⟨_, (true), (by first | rfl | (simp; done) | (simp [*]; done)), H', ⟨by have := HJ6.out; first | omega | exact Nat.le_refl _⟩, ⟨by (with_reducible repeat (first | apply r1_ | apply r2_ | apply r3_)); exact HO_1202006.out⟩, ⟨by (with_reducible repeat (first | apply r1_ | apply r2_ | apply r3_)); exact HO_1216006.out⟩, ⟨by (with_reducible repeat (first | apply k1_ | apply k2_ | apply k3_)); exact BK1201.out⟩, ⟨by (with_reducible repeat (first | apply k1_ | apply k2_ | apply k3_)); exact BK1215.out⟩, ⟨by repeat (first | (with_reducible first | exact HB.out | apply b1_ | apply b2_ | apply b3_ | refine below_set ?_ GE1201.out | refine below_set ?_ GE1215.out) | exact HB.out)⟩⟩
       ·rw [if_neg c40] at H
        have c40b0 : decide (t1221 < 0) = false := decide_eq_false c40
        clear c40
        (first | rw [c40b0] | (simp only [i64_w, i32_w]; rw [c40b0]) | skip)
        replace H := Option.bind_eq_some_iff.mp H
        obtain ⟨t1223, A410, H⟩ := H
        replace H : (if t1223 = true then (laws_FnExactReadBatch.j1 kj6 l0 t1200 (t1214 != t1200) t1191 t1192 t1193 t1194 t1195 t1196 t1197 t1205 t1206 t1207 t1208 t1209 t1210 t1211) else (laws_FnExactReadBatch.j1 kj6 l0 t1200 true t1191 t1192 t1193 t1194 t1195 t1196 t1197 t1205 t1206 t1207 t1208 t1209 t1210 t1211)) = some r := H
        have A41 := am_ A410
        clear A410
        by_cases c42 : t1223 = true
        ·subst c42
         have H1 : (laws_FnExactReadBatch.j1 kj6 l0 t1200 (t1214 != t1200) t1191 t1192 t1193 t1194 t1195 t1196 t1197 t1205 t1206 t1207 t1208 t1209 t1210 t1211) = some r := by rw [if_pos rfl] at H; exact H
         clear H
         have H := H1
         clear H1
         have H' := am_ H
         clear H
         have hnb43 := NB1215_1201.out
         have hnc43 := NB1201_1215.out
         have hcz44_0 : w39.cell? ⟨gb1215, 0, none⟩ = some (.bool t1205) := (blk_cell BK1215.out 0).trans rfl
         have hcz44_1 : w39.cell? ⟨gb1215, 1, none⟩ = some (.int .i64 t1206) := (blk_cell BK1215.out 1).trans rfl
         have hcz44_2 : w39.cell? ⟨gb1215, 2, none⟩ = some (.int .i64 t1207) := (blk_cell BK1215.out 2).trans rfl
         have hcz44_3 : w39.cell? ⟨gb1215, 3, none⟩ = some (.int .i64 t1208) := (blk_cell BK1215.out 3).trans rfl
         have hcz44_4 : w39.cell? ⟨gb1215, 4, none⟩ = some (.int .i64 t1209) := (blk_cell BK1215.out 4).trans rfl
         have hcz44_5 : w39.cell? ⟨gb1215, 5, none⟩ = some (.string t1210) := (blk_cell BK1215.out 5).trans rfl
         have hcz44_6 : w39.cell? ⟨gb1215, 6, none⟩ = some (.slice Ao20 t1211.length co20) := (blk_cell BK1215.out 6).trans rfl
         have hfz44_0 := blk_frozen BK1215.out 0
         have hfz44_1 := blk_frozen BK1215.out 1
         have hfz44_2 := blk_frozen BK1215.out 2
         have hfz44_3 := blk_frozen BK1215.out 3
         have hfz44_4 := blk_frozen BK1215.out 4
         have hfz44_5 := blk_frozen BK1215.out 5
         have hfz44_6 := blk_frozen BK1215.out 6
         have hcz45_0 : w39.cell? ⟨gb1201, 0, none⟩ = some (.bool t1191) := (blk_cell BK1201.out 0).trans rfl
         have hcz45_1 : w39.cell? ⟨gb1201, 1, none⟩ = some (.int .i64 t1192) := (blk_cell BK1201.out 1).trans rfl
         have hcz45_2 : w39.cell? ⟨gb1201, 2, none⟩ = some (.int .i64 t1193) := (blk_cell BK1201.out 2).trans rfl
         have hcz45_3 : w39.cell? ⟨gb1201, 3, none⟩ = some (.int .i64 t1194) := (blk_cell BK1201.out 3).trans rfl
         have hcz45_4 : w39.cell? ⟨gb1201, 4, none⟩ = some (.int .i64 t1195) := (blk_cell BK1201.out 4).trans rfl
         have hcz45_5 : w39.cell? ⟨gb1201, 5, none⟩ = some (.string t1196) := (blk_cell BK1201.out 5).trans rfl
         have hcz45_6 : w39.cell? ⟨gb1201, 6, none⟩ = some (.slice Ao13 t1197.length co13) := (blk_cell BK1201.out 6).trans rfl
         have hfz45_0 := blk_frozen BK1201.out 0
         have hfz45_1 := blk_frozen BK1201.out 1
         have hfz45_2 := blk_frozen BK1201.out 2
         have hfz45_3 := blk_frozen BK1201.out 3
         have hfz45_4 := blk_frozen BK1201.out 4
         have hfz45_5 := blk_frozen BK1201.out 5
         have hfz45_6 := blk_frozen BK1201.out 6
         go_wp2_with (first | (go_at_call 46; (with_reducible refine (laws_eqBatch.calls kj6 t1205 t1206 t1207 t1208 t1209 t1210 _ _ t1211 t1191 t1192 t1193 t1194 t1195 t1196 _ _ t1197 true _ ?side1 ?side2 ?side3 ?side4 A41.out).mono ?_); (case side1 => repeat (first | exact (Kd.R_reads' HO_1216006.out).2.2 | (with_reducible refine Kd.C_alloc ?_ _) | (with_reducible refine Kd.C_drewN ?_ _) | (with_reducible refine Kd.C_drew ?_))); (case side2 => exact (Kd.R_reads' HO_1216006.out).2.1); (case side3 => repeat (first | exact (Kd.R_reads' HO_1202006.out).2.2 | (with_reducible refine Kd.C_alloc ?_ _) | (with_reducible refine Kd.C_drewN ?_ _) | (with_reducible refine Kd.C_drew ?_))); (case side4 => exact (Kd.R_reads' HO_1202006.out).2.1); rintro e w46 ⟨rfl, hb⟩; have n0_ := am_ (Kd.R_below (by (with_reducible repeat (first | apply r1_ | apply r2_ | apply r3_)); exact HO_5.out) hb); have n1_ := am_ (Kd.R_below (by (with_reducible repeat (first | apply r1_ | apply r2_ | apply r3_)); exact HO_1202006.out) hb); have n2_ := am_ (Kd.R_below (by (with_reducible repeat (first | apply r1_ | apply r2_ | apply r3_)); exact HO_1216006.out) hb); have n3_ := am_ (Kd.R_below (by (with_reducible repeat (first | apply r1_ | apply r2_ | apply r3_)); exact HO1219.out) hb); have n4_ := am_ (blk_below (g := gb1201) (o := .cells #[.bool t1191, .int .i64 t1192, .int .i64 t1193, .int .i64 t1194, .int .i64 t1195, .string t1196, .slice Ao13 t1197.length co13] 67 (0, 0)) (by (with_reducible repeat (first | apply k1_ | apply k2_ | apply k3_)); exact BK1201.out) hb); have n5_ := am_ (blk_below (g := gb1215) (o := .cells #[.bool t1205, .int .i64 t1206, .int .i64 t1207, .int .i64 t1208, .int .i64 t1209, .string t1210, .slice Ao20 t1211.length co20] 67 (0, 0)) (by (with_reducible repeat (first | apply k1_ | apply k2_ | apply k3_)); exact BK1215.out) hb); have n6_ := am_ (below_step (by repeat (first | (with_reducible first | exact HB.out | apply b1_ | apply b2_ | apply b3_ | refine below_set ?_ GE1201.out | refine below_set ?_ GE1215.out) | exact HB.out)) hb); clear HO_5; clear HO_1202006; clear HO_1216006; clear HO1219; clear BK1201; clear BK1215; clear HB; have HO_5 := n0_; have HO_1202006 := n1_; have HO_1216006 := n2_; have HO1219 := n3_; have BK1201 := n4_; have BK1215 := n5_; have HB := n6_; clear n0_ n1_ n2_ n3_ n4_ n5_ n6_; (try clear hb); (try clear hb2); (try clear hk); (try clear hi)))
         go_meet
         case rel => exact ⟨_, ((t1214 != t1200)), (by first | rfl | (simp; done) | (simp [*]; done)), H', ⟨by have := HJ6.out; first | omega | exact Nat.le_refl _⟩, ⟨by (with_reducible repeat (first | apply r1_ | apply r2_ | apply r3_)); exact HO_1202006.out⟩, ⟨by (with_reducible repeat (first | apply r1_ | apply r2_ | apply r3_)); exact HO_1216006.out⟩, ⟨by (with_reducible repeat (first | apply k1_ | apply k2_ | apply k3_)); exact BK1201.out⟩, ⟨by (with_reducible repeat (first | apply k1_ | apply k2_ | apply k3_)); exact BK1215.out⟩, ⟨by repeat (first | (with_reducible first | exact HB.out | apply b1_ | apply b2_ | apply b3_ | refine below_set ?_ GE1201.out | refine below_set ?_ GE1215.out) | exact HB.out)⟩⟩
        ·replace c42 := Bool.eq_false_iff.mpr c42
         subst c42
         have H1 : (laws_FnExactReadBatch.j1 kj6 l0 t1200 true t1191 t1192 t1193 t1194 t1195 t1196 t1197 t1205 t1206 t1207 t1208 t1209 t1210 t1211) = some r := by rw [if_neg (show ¬ (false = true) by decide)] at H; exact H
         clear H
         have H := H1
         clear H1
         have H' := am_ H
         clear H
         have hnb47 := NB1215_1201.out
         have hnc47 := NB1201_1215.out
         have hcz48_0 : w39.cell? ⟨gb1215, 0, none⟩ = some (.bool t1205) := (blk_cell BK1215.out 0).trans rfl
         have hcz48_1 : w39.cell? ⟨gb1215, 1, none⟩ = some (.int .i64 t1206) := (blk_cell BK1215.out 1).trans rfl
         have hcz48_2 : w39.cell? ⟨gb1215, 2, none⟩ = some (.int .i64 t1207) := (blk_cell BK1215.out 2).trans rfl
         have hcz48_3 : w39.cell? ⟨gb1215, 3, none⟩ = some (.int .i64 t1208) := (blk_cell BK1215.out 3).trans rfl
         have hcz48_4 : w39.cell? ⟨gb1215, 4, none⟩ = some (.int .i64 t1209) := (blk_cell BK1215.out 4).trans rfl
         have hcz48_5 : w39.cell? ⟨gb1215, 5, none⟩ = some (.string t1210) := (blk_cell BK1215.out 5).trans rfl
         have hcz48_6 : w39.cell? ⟨gb1215, 6, none⟩ = some (.slice Ao20 t1211.length co20) := (blk_cell BK1215.out 6).trans rfl
         have hfz48_0 := blk_frozen BK1215.out 0
         have hfz48_1 := blk_frozen BK1215.out 1
         have hfz48_2 := blk_frozen BK1215.out 2
         have hfz48_3 := blk_frozen BK1215.out 3
         have hfz48_4 := blk_frozen BK1215.out 4
         have hfz48_5 := blk_frozen BK1215.out 5
         have hfz48_6 := blk_frozen BK1215.out 6
         have hcz49_0 : w39.cell? ⟨gb1201, 0, none⟩ = some (.bool t1191) := (blk_cell BK1201.out 0).trans rfl
         have hcz49_1 : w39.cell? ⟨gb1201, 1, none⟩ = some (.int .i64 t1192) := (blk_cell BK1201.out 1).trans rfl
         have hcz49_2 : w39.cell? ⟨gb1201, 2, none⟩ = some (.int .i64 t1193) := (blk_cell BK1201.out 2).trans rfl
         have hcz49_3 : w39.cell? ⟨gb1201, 3, none⟩ = some (.int .i64 t1194) := (blk_cell BK1201.out 3).trans rfl
         have hcz49_4 : w39.cell? ⟨gb1201, 4, none⟩ = some (.int .i64 t1195) := (blk_cell BK1201.out 4).trans rfl
         have hcz49_5 : w39.cell? ⟨gb1201, 5, none⟩ = some (.string t1196) := (blk_cell BK1201.out 5).trans rfl
         have hcz49_6 : w39.cell? ⟨gb1201, 6, none⟩ = some (.slice Ao13 t1197.length co13) := (blk_cell BK1201.out 6).trans rfl
         have hfz49_0 := blk_frozen BK1201.out 0
         have hfz49_1 := blk_frozen BK1201.out 1
         have hfz49_2 := blk_frozen BK1201.out 2
         have hfz49_3 := blk_frozen BK1201.out 3
         have hfz49_4 := blk_frozen BK1201.out 4
         have hfz49_5 := blk_frozen BK1201.out 5
         have hfz49_6 := blk_frozen BK1201.out 6
         go_wp2_with (first | (go_at_call 46; (with_reducible refine (laws_eqBatch.calls kj6 t1205 t1206 t1207 t1208 t1209 t1210 _ _ t1211 t1191 t1192 t1193 t1194 t1195 t1196 _ _ t1197 false _ ?side1 ?side2 ?side3 ?side4 A41.out).mono ?_); (case side1 => repeat (first | exact (Kd.R_reads' HO_1216006.out).2.2 | (with_reducible refine Kd.C_alloc ?_ _) | (with_reducible refine Kd.C_drewN ?_ _) | (with_reducible refine Kd.C_drew ?_))); (case side2 => exact (Kd.R_reads' HO_1216006.out).2.1); (case side3 => repeat (first | exact (Kd.R_reads' HO_1202006.out).2.2 | (with_reducible refine Kd.C_alloc ?_ _) | (with_reducible refine Kd.C_drewN ?_ _) | (with_reducible refine Kd.C_drew ?_))); (case side4 => exact (Kd.R_reads' HO_1202006.out).2.1); rintro e w50 ⟨rfl, hb⟩; have n0_ := am_ (Kd.R_below (by (with_reducible repeat (first | apply r1_ | apply r2_ | apply r3_)); exact HO_5.out) hb); have n1_ := am_ (Kd.R_below (by (with_reducible repeat (first | apply r1_ | apply r2_ | apply r3_)); exact HO_1202006.out) hb); have n2_ := am_ (Kd.R_below (by (with_reducible repeat (first | apply r1_ | apply r2_ | apply r3_)); exact HO_1216006.out) hb); have n3_ := am_ (Kd.R_below (by (with_reducible repeat (first | apply r1_ | apply r2_ | apply r3_)); exact HO1219.out) hb); have n4_ := am_ (blk_below (g := gb1201) (o := .cells #[.bool t1191, .int .i64 t1192, .int .i64 t1193, .int .i64 t1194, .int .i64 t1195, .string t1196, .slice Ao13 t1197.length co13] 67 (0, 0)) (by (with_reducible repeat (first | apply k1_ | apply k2_ | apply k3_)); exact BK1201.out) hb); have n5_ := am_ (blk_below (g := gb1215) (o := .cells #[.bool t1205, .int .i64 t1206, .int .i64 t1207, .int .i64 t1208, .int .i64 t1209, .string t1210, .slice Ao20 t1211.length co20] 67 (0, 0)) (by (with_reducible repeat (first | apply k1_ | apply k2_ | apply k3_)); exact BK1215.out) hb); have n6_ := am_ (below_step (by repeat (first | (with_reducible first | exact HB.out | apply b1_ | apply b2_ | apply b3_ | refine below_set ?_ GE1201.out | refine below_set ?_ GE1215.out) | exact HB.out)) hb); clear HO_5; clear HO_1202006; clear HO_1216006; clear HO1219; clear BK1201; clear BK1215; clear HB; have HO_5 := n0_; have HO_1202006 := n1_; have HO_1216006 := n2_; have HO1219 := n3_; have BK1201 := n4_; have BK1215 := n5_; have HB := n6_; clear n0_ n1_ n2_ n3_ n4_ n5_ n6_; (try clear hb); (try clear hb2); (try clear hk); (try clear hi)))
         go_meet
         case rel => exact ⟨_, (true), (by first | rfl | (simp; done) | (simp [*]; done)), H', ⟨by have := HJ6.out; first | omega | exact Nat.le_refl _⟩, ⟨by (with_reducible repeat (first | apply r1_ | apply r2_ | apply r3_)); exact HO_1202006.out⟩, ⟨by (with_reducible repeat (first | apply r1_ | apply r2_ | apply r3_)); exact HO_1216006.out⟩, ⟨by (with_reducible repeat (first | apply k1_ | apply k2_ | apply k3_)); exact BK1201.out⟩, ⟨by (with_reducible repeat (first | apply k1_ | apply k2_ | apply k3_)); exact BK1215.out⟩, ⟨by repeat (first | (with_reducible first | exact HB.out | apply b1_ | apply b2_ | apply b3_ | refine below_set ?_ GE1201.out | refine below_set ?_ GE1215.out) | exact HB.out)⟩⟩
      case rest =>
       clear HC36
       try clear c1
       try clear c2
       try clear c2b0
       try clear c2b1
       try clear p2
       try clear c3
       try clear c4
       try clear c8
       try clear c15
       try clear c18
       try clear c22
       try clear c23
       try clear c27
       try clear c31
       try clear c34
       try clear c40
       try clear c40b0
       try clear c42
       try clear c43
       try clear c44
       try clear c45
       try clear c46
       try clear c47
       try clear hcz12_0
       try clear hcz12_1
       try clear hcz12_2
       try clear hcz12_3
       try clear hcz12_4
       try clear hcz12_5
       try clear hcz12_6
       try clear hcz19_0
       try clear hcz19_1
       try clear hcz19_2
       try clear hcz19_3
       try clear hcz19_4
       try clear hcz19_5
       try clear hcz19_6
       try clear hcz24_0
       try clear hcz24_1
       try clear hcz24_2
       try clear hcz24_3
       try clear hcz24_4
       try clear hcz24_5
       try clear hcz24_6
       try clear hcz25_0
       try clear hcz25_1
       try clear hcz25_2
       try clear hcz25_3
       try clear hcz25_4
       try clear hcz25_5
       try clear hcz25_6
       try clear hcz28_0
       try clear hcz28_1
       try clear hcz28_2
       try clear hcz28_3
       try clear hcz28_4
       try clear hcz28_5
       try clear hcz28_6
       try clear hcz29_0
       try clear hcz29_1
       try clear hcz29_2
       try clear hcz29_3
       try clear hcz29_4
       try clear hcz29_5
       try clear hcz29_6
       try clear hcz44_0
       try clear hcz44_1
       try clear hcz44_2
       try clear hcz44_3
       try clear hcz44_4
       try clear hcz44_5
       try clear hcz44_6
       try clear hcz45_0
       try clear hcz45_1
       try clear hcz45_2
       try clear hcz45_3
       try clear hcz45_4
       try clear hcz45_5
       try clear hcz45_6
       try clear hcz48_0
       try clear hcz48_1
       try clear hcz48_2
       try clear hcz48_3
       try clear hcz48_4
       try clear hcz48_5
       try clear hcz48_6
       try clear hcz49_0
       try clear hcz49_1
       try clear hcz49_2
       try clear hcz49_3
       try clear hcz49_4
       try clear hcz49_5
       try clear hcz49_6
       try clear hfz12_0
       try clear hfz12_1
       try clear hfz12_2
       try clear hfz12_3
       try clear hfz12_4
       try clear hfz12_5
       try clear hfz12_6
       try clear hfz19_0
       try clear hfz19_1
       try clear hfz19_2
       try clear hfz19_3
       try clear hfz19_4
       try clear hfz19_5
       try clear hfz19_6
       try clear hfz24_0
       try clear hfz24_1
       try clear hfz24_2
       try clear hfz24_3
       try clear hfz24_4
       try clear hfz24_5
       try clear hfz24_6
       try clear hfz25_0
       try clear hfz25_1
       try clear hfz25_2
       try clear hfz25_3
       try clear hfz25_4
       try clear hfz25_5
       try clear hfz25_6
       try clear hfz28_0
       try clear hfz28_1
       try clear hfz28_2
       try clear hfz28_3
       try clear hfz28_4
       try clear hfz28_5
       try clear hfz28_6
       try clear hfz29_0
       try clear hfz29_1
       try clear hfz29_2
       try clear hfz29_3
       try clear hfz29_4
       try clear hfz29_5
       try clear hfz29_6
       try clear hfz44_0
       try clear hfz44_1
       try clear hfz44_2
       try clear hfz44_3
       try clear hfz44_4
       try clear hfz44_5
       try clear hfz44_6
       try clear hfz45_0
       try clear hfz45_1
       try clear hfz45_2
       try clear hfz45_3
       try clear hfz45_4
       try clear hfz45_5
       try clear hfz45_6
       try clear hfz48_0
       try clear hfz48_1
       try clear hfz48_2
       try clear hfz48_3
       try clear hfz48_4
       try clear hfz48_5
       try clear hfz48_6
       try clear hfz49_0
       try clear hfz49_1
       try clear hfz49_2
       try clear hfz49_3
       try clear hfz49_4
       try clear hfz49_5
       try clear hfz49_6
       try clear p2
       obtain ⟨kq, x58_35, rfl, HA, HJ35, HO_1202006, HO_1216006, BK1201, BK1215, HB⟩ := hcut
       cases kq with
       | zero => exact absurd HA.out (by simp [laws_FnExactReadBatch.j1])
       | succ kj35 =>
        have H := HA.out
        clear HA
        simp only [laws_FnExactReadBatch.j1] at H
        by_cases c51 : x58_35 = true
        ·subst c51
         have H1 : (some false) = some r := by rw [if_pos rfl] at H; exact H
         clear H
         have H := H1
         clear H1
         obtain rfl := Option.some.inj H
         go_wp2
         go_ret
         exact ⟨by first | rfl | (simp [e1_, e2_] <;> rfl) | (simp [*, e1_, e2_] <;> rfl) | (simp [e3_, e4_]; done) | (simp [*, e3_, e4_]; done), by repeat (first | (with_reducible first | exact HB.out | apply b1_ | apply b2_ | apply b3_ | refine below_set ?_ GE1201.out | refine below_set ?_ GE1215.out) | exact HB.out)⟩
        ·replace c51 := Bool.eq_false_iff.mpr c51
         subst c51
         have H1 : ((laws_markBatch.f kj35 t1205 t1206 t1207 t1208 t1209 t1210 t1211 1).bind fun bt1224 => ((laws_heldBatch.f kj35 t1205 t1206 t1207 t1208 t1209 t1210 bt1224.2 1).bind fun t1226 => (if t1226 < 0 then (some false) else (if t1226 = bt1224.1 then ((laws_toByteS.f kj35 l0).bind fun t1227 => ((impl_ReadBatch.f kj35 t1227).bind fun bt1230 => ((laws_eqBatch.f kj35 bt1230.1 bt1230.2.1 bt1230.2.2.1 bt1230.2.2.2.1 bt1230.2.2.2.2.1 bt1230.2.2.2.2.2.1 bt1230.2.2.2.2.2.2.1 t1191 t1192 t1193 t1194 t1195 t1196 t1197).bind fun t1241 => (if t1241 = true then (laws_FnExactReadBatch.j2 kj35 bt1224.1 (bt1230.2.2.2.2.2.2.2 != t1200) t1205 t1206 t1207 t1208 t1209 t1210 bt1224.2) else (laws_FnExactReadBatch.j2 kj35 bt1224.1 true t1205 t1206 t1207 t1208 t1209 t1210 bt1224.2))))) else (some false))))) = some r := by rw [if_neg (show ¬ (false = true) by decide)] at H; exact H
         clear H
         have H := H1
         clear H1
         replace H := Option.bind_eq_some_iff.mp H
         obtain ⟨⟨t1224, t1225⟩, A520, H⟩ := H
         replace H : ((laws_heldBatch.f kj35 t1205 t1206 t1207 t1208 t1209 t1210 t1225 1).bind fun t1226 => (if t1226 < 0 then (some false) else (if t1226 = t1224 then ((laws_toByteS.f kj35 l0).bind fun t1227 => ((impl_ReadBatch.f kj35 t1227).bind fun bt1230 => ((laws_eqBatch.f kj35 bt1230.1 bt1230.2.1 bt1230.2.2.1 bt1230.2.2.2.1 bt1230.2.2.2.2.1 bt1230.2.2.2.2.2.1 bt1230.2.2.2.2.2.2.1 t1191 t1192 t1193 t1194 t1195 t1196 t1197).bind fun t1241 => (if t1241 = true then (laws_FnExactReadBatch.j2 kj35 t1224 (bt1230.2.2.2.2.2.2.2 != t1200) t1205 t1206 t1207 t1208 t1209 t1210 t1225) else (laws_FnExactReadBatch.j2 kj35 t1224 true t1205 t1206 t1207 t1208 t1209 t1210 t1225))))) else (some false)))) = some r := H
         have A52 := am_ A520
         clear A520
         replace H := Option.bind_eq_some_iff.mp H
         obtain ⟨t1226, A530, H⟩ := H
         replace H : (if t1226 < 0 then (some false) else (if t1226 = t1224 then ((laws_toByteS.f kj35 l0).bind fun t1227 => ((impl_ReadBatch.f kj35 t1227).bind fun bt1230 => ((laws_eqBatch.f kj35 bt1230.1 bt1230.2.1 bt1230.2.2.1 bt1230.2.2.2.1 bt1230.2.2.2.2.1 bt1230.2.2.2.2.2.1 bt1230.2.2.2.2.2.2.1 t1191 t1192 t1193 t1194 t1195 t1196 t1197).bind fun t1241 => (if t1241 = true then (laws_FnExactReadBatch.j2 kj35 t1224 (bt1230.2.2.2.2.2.2.2 != t1200) t1205 t1206 t1207 t1208 t1209 t1210 t1225) else (laws_FnExactReadBatch.j2 kj35 t1224 true t1205 t1206 t1207 t1208 t1209 t1210 t1225))))) else (some false))) = some r := H
         have A53 := am_ A530
         clear A530
         by_cases c54 : t1226 < 0
         ·rw [if_pos c54] at H
          have c54b0 : decide (t1226 < 0) = true := decide_eq_true c54
          clear c54
          obtain rfl := Option.some.inj H
          have hnb55 := NB1215_1201.out
          have hnc55 := NB1201_1215.out
          have hcz56_0 : wc.cell? ⟨gb1215, 0, none⟩ = some (.bool t1205) := (blk_cell BK1215.out 0).trans rfl
          have hcz56_1 : wc.cell? ⟨gb1215, 1, none⟩ = some (.int .i64 t1206) := (blk_cell BK1215.out 1).trans rfl
          have hcz56_2 : wc.cell? ⟨gb1215, 2, none⟩ = some (.int .i64 t1207) := (blk_cell BK1215.out 2).trans rfl
          have hcz56_3 : wc.cell? ⟨gb1215, 3, none⟩ = some (.int .i64 t1208) := (blk_cell BK1215.out 3).trans rfl
          have hcz56_4 : wc.cell? ⟨gb1215, 4, none⟩ = some (.int .i64 t1209) := (blk_cell BK1215.out 4).trans rfl
          have hcz56_5 : wc.cell? ⟨gb1215, 5, none⟩ = some (.string t1210) := (blk_cell BK1215.out 5).trans rfl
          have hcz56_6 : wc.cell? ⟨gb1215, 6, none⟩ = some (.slice Ao20 t1211.length co20) := (blk_cell BK1215.out 6).trans rfl
          have hfz56_0 := blk_frozen BK1215.out 0
          have hfz56_1 := blk_frozen BK1215.out 1
          have hfz56_2 := blk_frozen BK1215.out 2
          have hfz56_3 := blk_frozen BK1215.out 3
          have hfz56_4 := blk_frozen BK1215.out 4
          have hfz56_5 := blk_frozen BK1215.out 5
          have hfz56_6 := blk_frozen BK1215.out 6
          go_wp2_with (first | ((with_reducible refine gate_callee (f := 47) rfl ?_); refine goesL_ (some 61) rfl rfl Try.func47 (by kernel_rfl) rfl #[.agg #[.bool t1205, .int .i64 t1206, .int .i64 t1207, .int .i64 t1208, .int .i64 t1209, .string t1210, .slice Ao20 t1211.length co20], .int .i64 1] rfl (by (try simp only [m1_, m2_, m3_]); first | done | rfl | (simp only [d1_, d2_]; rfl)) ?_; (with_reducible refine (laws_markBatch.calls kj35 t1205 t1206 t1207 t1208 t1209 t1210 (fun k_ => some k_ = (.slice Ao20 t1211.length co20 : Value).ownBlock) (.slice Ao20 t1211.length co20) t1211 1 t1224 t1225 w _ ?side1 ?side2 A52.out).mono ?_); (case side1 => repeat (first | (with_reducible first | exact HB.out | apply b1_ | apply b2_ | apply b3_ | refine below_set ?_ GE1201.out | refine below_set ?_ GE1215.out) | exact HB.out)); (case side2 => exact Kd.R_tight rfl HO_1216006.out); rintro e w57 ⟨rfl, hy0, hb, hkp⟩; refine ⟨_, rfl, ?_⟩; have n0_ := am_ (Kd.R_mono (ok' := fun k_ => some k_ ≠ (.slice Ao20 t1211.length co20 : Value).ownBlock) (Kd.R_keptB (HO_1202006.out) hkp (fun k_ hk_ hs_ => (hk_) hs_)) (fun k_ hk_ => hk_.1)); have n1_ := am_ (Kd.R_reok rfl hy0 (fun k_ e_ => HO_1216006.out.1 k_ e_)); have n2_ := am_ (blk_kept (by (with_reducible repeat (first | apply k1_ | apply k2_ | apply k3_)); exact BK1201.out) hkp (fun hs_ => (fun e_ => (Kd.R_ne HO_1216006.out BK1201.out (by decide)) e_) hs_)); have n3_ := am_ (blk_kept (by (with_reducible repeat (first | apply k1_ | apply k2_ | apply k3_)); exact BK1215.out) hkp (fun hs_ => (fun e_ => (Kd.R_ne HO_1216006.out BK1215.out (by decide)) e_) hs_)); have n4_ := am_ (hb); clear HO_1202006; clear HO_1216006; clear BK1201; clear BK1215; clear HB; have HO_1202006 := n0_; have HO_1216006 := n1_; have BK1201 := n2_; have BK1215 := n3_; have HB := n4_; clear n0_ n1_ n2_ n3_ n4_; (try clear hb); (try clear hkp); (try clear hy0); have hcz58_0 : w57.cell? ⟨gb1215, 0, none⟩ = some (.bool t1205) := (blk_cell BK1215.out 0).trans rfl; have hcz58_1 : w57.cell? ⟨gb1215, 1, none⟩ = some (.int .i64 t1206) := (blk_cell BK1215.out 1).trans rfl; have hcz58_2 : w57.cell? ⟨gb1215, 2, none⟩ = some (.int .i64 t1207) := (blk_cell BK1215.out 2).trans rfl; have hcz58_3 : w57.cell? ⟨gb1215, 3, none⟩ = some (.int .i64 t1208) := (blk_cell BK1215.out 3).trans rfl; have hcz58_4 : w57.cell? ⟨gb1215, 4, none⟩ = some (.int .i64 t1209) := (blk_cell BK1215.out 4).trans rfl; have hcz58_5 : w57.cell? ⟨gb1215, 5, none⟩ = some (.string t1210) := (blk_cell BK1215.out 5).trans rfl; have hcz58_6 : w57.cell? ⟨gb1215, 6, none⟩ = some (.slice Ao20 t1211.length co20) := (blk_cell BK1215.out 6).trans rfl; have hfz58_0 := blk_frozen BK1215.out 0; have hfz58_1 := blk_frozen BK1215.out 1; have hfz58_2 := blk_frozen BK1215.out 2; have hfz58_3 := blk_frozen BK1215.out 3; have hfz58_4 := blk_frozen BK1215.out 4; have hfz58_5 := blk_frozen BK1215.out 5; have hfz58_6 := blk_frozen BK1215.out 6) | ((with_reducible refine gate_callee (f := 48) rfl ?_); refine goesL_ (some 64) rfl rfl Try.func48 (by kernel_rfl) rfl #[.agg #[.bool t1205, .int .i64 t1206, .int .i64 t1207, .int .i64 t1208, .int .i64 t1209, .string t1210, .slice Ao20 t1225.length co20], .int .i64 1] rfl (by (try simp only [m1_, m2_, m3_]); first | done | (rw [show t1225.length = t1211.length from (Kd.R_reads' HO_1216006.out).1.symm] <;> rfl) | rfl | (simp only [d1_, d2_]; rfl)) ?_; (with_reducible refine (laws_heldBatch.calls kj35 t1205 t1206 t1207 t1208 t1209 t1210 _ _ t1225 1 t1226 _ ?side1 ?side2 A53.out).mono ?_); (case side1 => repeat (first | exact (Kd.R_reads' HO_1216006.out).2.2 | (with_reducible refine Kd.C_alloc ?_ _) | (with_reducible refine Kd.C_drewN ?_ _) | (with_reducible refine Kd.C_drew ?_))); (case side2 => rw [show t1225.length = t1211.length from (Kd.R_reads' HO_1216006.out).1.symm]; exact (Kd.R_reads' HO_1216006.out).2.1); rintro e w59 ⟨rfl, hb⟩; refine ⟨_, rfl, ?_⟩; have n0_ := am_ (Kd.R_below (by (with_reducible repeat (first | apply r1_ | apply r2_ | apply r3_)); exact HO_1202006.out) hb); have n1_ := am_ (Kd.R_below (by (with_reducible repeat (first | apply r1_ | apply r2_ | apply r3_)); exact HO_1216006.out) hb); have n2_ := am_ (blk_below (g := gb1201) (o := .cells #[.bool t1191, .int .i64 t1192, .int .i64 t1193, .int .i64 t1194, .int .i64 t1195, .string t1196, .slice Ao13 t1197.length co13] 67 (0, 0)) (by (with_reducible repeat (first | apply k1_ | apply k2_ | apply k3_)); exact BK1201.out) hb); have n3_ := am_ (blk_below (g := gb1215) (o := .cells #[.bool t1205, .int .i64 t1206, .int .i64 t1207, .int .i64 t1208, .int .i64 t1209, .string t1210, .slice Ao20 t1211.length co20] 67 (0, 0)) (by (with_reducible repeat (first | apply k1_ | apply k2_ | apply k3_)); exact BK1215.out) hb); have n4_ := am_ (below_step (by repeat (first | (with_reducible first | exact HB.out | apply b1_ | apply b2_ | apply b3_ | refine below_set ?_ GE1201.out | refine below_set ?_ GE1215.out) | exact HB.out)) hb); clear HO_1202006; clear HO_1216006; clear BK1201; clear BK1215; clear HB; have HO_1202006 := n0_; have HO_1216006 := n1_; have BK1201 := n2_; have BK1215 := n3_; have HB := n4_; clear n0_ n1_ n2_ n3_ n4_; (try clear hb); (try clear hb2); (try clear hk); (try clear hi)))
          go_ret
          exact ⟨by first | rfl | (simp [e1_, e2_] <;> rfl) | (simp [*, e1_, e2_] <;> rfl) | (simp [e3_, e4_]; done) | (simp [*, e3_, e4_]; done), by repeat (first | (with_reducible first | exact HB.out | apply b1_ | apply b2_ | apply b3_ | refine below_set ?_ GE1201.out | refine below_set ?_ GE1215.out) | exact HB.out)⟩
         ·rw [if_neg c54] at H
          have c54b0 : decide (t1226 < 0) = false := decide_eq_false c54
          clear c54
          by_cases c60 : t1226 = t1224
          ·rw [if_pos c60] at H
           have c60b0 : (t1226 == t1224) = true := beq_iff_eq.mpr c60
           have c60b1 : (t1226 != t1224) = false := bne_eq_false_iff_eq.mpr c60
           clear c60
           replace H := Option.bind_eq_some_iff.mp H
           obtain ⟨t1227, A610, H⟩ := H
           replace H : ((impl_ReadBatch.f kj35 t1227).bind fun bt1230 => ((laws_eqBatch.f kj35 bt1230.1 bt1230.2.1 bt1230.2.2.1 bt1230.2.2.2.1 bt1230.2.2.2.2.1 bt1230.2.2.2.2.2.1 bt1230.2.2.2.2.2.2.1 t1191 t1192 t1193 t1194 t1195 t1196 t1197).bind fun t1241 => (if t1241 = true then (laws_FnExactReadBatch.j2 kj35 t1224 (bt1230.2.2.2.2.2.2.2 != t1200) t1205 t1206 t1207 t1208 t1209 t1210 t1225) else (laws_FnExactReadBatch.j2 kj35 t1224 true t1205 t1206 t1207 t1208 t1209 t1210 t1225)))) = some r := H
           have A61 := am_ A610
           clear A610
           replace H := Option.bind_eq_some_iff.mp H
           obtain ⟨⟨t1230, t1231, t1232, t1233, t1234, t1235, t1236, t1239⟩, A620, H⟩ := H
           replace H : ((laws_eqBatch.f kj35 t1230 t1231 t1232 t1233 t1234 t1235 t1236 t1191 t1192 t1193 t1194 t1195 t1196 t1197).bind fun t1241 => (if t1241 = true then (laws_FnExactReadBatch.j2 kj35 t1224 (t1239 != t1200) t1205 t1206 t1207 t1208 t1209 t1210 t1225) else (laws_FnExactReadBatch.j2 kj35 t1224 true t1205 t1206 t1207 t1208 t1209 t1210 t1225))) = some r := H
           have A62 := am_ A620
           clear A620
           have HC63 := am_ H
           clear H
           have hnb64 := NB1215_1201.out
           have hnc64 := NB1201_1215.out
           have hcz65_0 : wc.cell? ⟨gb1215, 0, none⟩ = some (.bool t1205) := (blk_cell BK1215.out 0).trans rfl
           have hcz65_1 : wc.cell? ⟨gb1215, 1, none⟩ = some (.int .i64 t1206) := (blk_cell BK1215.out 1).trans rfl
           have hcz65_2 : wc.cell? ⟨gb1215, 2, none⟩ = some (.int .i64 t1207) := (blk_cell BK1215.out 2).trans rfl
           have hcz65_3 : wc.cell? ⟨gb1215, 3, none⟩ = some (.int .i64 t1208) := (blk_cell BK1215.out 3).trans rfl
           have hcz65_4 : wc.cell? ⟨gb1215, 4, none⟩ = some (.int .i64 t1209) := (blk_cell BK1215.out 4).trans rfl
           have hcz65_5 : wc.cell? ⟨gb1215, 5, none⟩ = some (.string t1210) := (blk_cell BK1215.out 5).trans rfl
           have hcz65_6 : wc.cell? ⟨gb1215, 6, none⟩ = some (.slice Ao20 t1211.length co20) := (blk_cell BK1215.out 6).trans rfl
           have hfz65_0 := blk_frozen BK1215.out 0
           have hfz65_1 := blk_frozen BK1215.out 1
           have hfz65_2 := blk_frozen BK1215.out 2
           have hfz65_3 := blk_frozen BK1215.out 3
           have hfz65_4 := blk_frozen BK1215.out 4
           have hfz65_5 := blk_frozen BK1215.out 5
           have hfz65_6 := blk_frozen BK1215.out 6
           go_upto_region 23 with (first | ((with_reducible refine gate_callee (f := 47) rfl ?_); refine goesL_ (some 61) rfl rfl Try.func47 (by kernel_rfl) rfl #[.agg #[.bool t1205, .int .i64 t1206, .int .i64 t1207, .int .i64 t1208, .int .i64 t1209, .string t1210, .slice Ao20 t1211.length co20], .int .i64 1] rfl (by (try simp only [m1_, m2_, m3_]); first | done | rfl | (simp only [d1_, d2_]; rfl)) ?_; (with_reducible refine (laws_markBatch.calls kj35 t1205 t1206 t1207 t1208 t1209 t1210 (fun k_ => some k_ = (.slice Ao20 t1211.length co20 : Value).ownBlock) (.slice Ao20 t1211.length co20) t1211 1 t1224 t1225 w _ ?side1 ?side2 A52.out).mono ?_); (case side1 => repeat (first | (with_reducible first | exact HB.out | apply b1_ | apply b2_ | apply b3_ | refine below_set ?_ GE1201.out | refine below_set ?_ GE1215.out) | exact HB.out)); (case side2 => exact Kd.R_tight rfl HO_1216006.out); rintro e w66 ⟨rfl, hy0, hb, hkp⟩; refine ⟨_, rfl, ?_⟩; have n0_ := am_ (Kd.R_mono (ok' := fun k_ => some k_ ≠ (.slice Ao20 t1211.length co20 : Value).ownBlock) (Kd.R_keptB (HO_1202006.out) hkp (fun k_ hk_ hs_ => (hk_) hs_)) (fun k_ hk_ => hk_.1)); have n1_ := am_ (Kd.R_reok rfl hy0 (fun k_ e_ => HO_1216006.out.1 k_ e_)); have n2_ := am_ (blk_kept (by (with_reducible repeat (first | apply k1_ | apply k2_ | apply k3_)); exact BK1201.out) hkp (fun hs_ => (fun e_ => (Kd.R_ne HO_1216006.out BK1201.out (by decide)) e_) hs_)); have n3_ := am_ (blk_kept (by (with_reducible repeat (first | apply k1_ | apply k2_ | apply k3_)); exact BK1215.out) hkp (fun hs_ => (fun e_ => (Kd.R_ne HO_1216006.out BK1215.out (by decide)) e_) hs_)); have n4_ := am_ (hb); clear HO_1202006; clear HO_1216006; clear BK1201; clear BK1215; clear HB; have HO_1202006 := n0_; have HO_1216006 := n1_; have BK1201 := n2_; have BK1215 := n3_; have HB := n4_; clear n0_ n1_ n2_ n3_ n4_; (try clear hb); (try clear hkp); (try clear hy0); have hcz67_0 : w66.cell? ⟨gb1215, 0, none⟩ = some (.bool t1205) := (blk_cell BK1215.out 0).trans rfl; have hcz67_1 : w66.cell? ⟨gb1215, 1, none⟩ = some (.int .i64 t1206) := (blk_cell BK1215.out 1).trans rfl; have hcz67_2 : w66.cell? ⟨gb1215, 2, none⟩ = some (.int .i64 t1207) := (blk_cell BK1215.out 2).trans rfl; have hcz67_3 : w66.cell? ⟨gb1215, 3, none⟩ = some (.int .i64 t1208) := (blk_cell BK1215.out 3).trans rfl; have hcz67_4 : w66.cell? ⟨gb1215, 4, none⟩ = some (.int .i64 t1209) := (blk_cell BK1215.out 4).trans rfl; have hcz67_5 : w66.cell? ⟨gb1215, 5, none⟩ = some (.string t1210) := (blk_cell BK1215.out 5).trans rfl; have hcz67_6 : w66.cell? ⟨gb1215, 6, none⟩ = some (.slice Ao20 t1211.length co20) := (blk_cell BK1215.out 6).trans rfl; have hfz67_0 := blk_frozen BK1215.out 0; have hfz67_1 := blk_frozen BK1215.out 1; have hfz67_2 := blk_frozen BK1215.out 2; have hfz67_3 := blk_frozen BK1215.out 3; have hfz67_4 := blk_frozen BK1215.out 4; have hfz67_5 := blk_frozen BK1215.out 5; have hfz67_6 := blk_frozen BK1215.out 6) | ((with_reducible refine gate_callee (f := 48) rfl ?_); refine goesL_ (some 64) rfl rfl Try.func48 (by kernel_rfl) rfl #[.agg #[.bool t1205, .int .i64 t1206, .int .i64 t1207, .int .i64 t1208, .int .i64 t1209, .string t1210, .slice Ao20 t1225.length co20], .int .i64 1] rfl (by (try simp only [m1_, m2_, m3_]); first | done | (rw [show t1225.length = t1211.length from (Kd.R_reads' HO_1216006.out).1.symm] <;> rfl) | rfl | (simp only [d1_, d2_]; rfl)) ?_; (with_reducible refine (laws_heldBatch.calls kj35 t1205 t1206 t1207 t1208 t1209 t1210 _ _ t1225 1 t1226 _ ?side1 ?side2 A53.out).mono ?_); (case side1 => repeat (first | exact (Kd.R_reads' HO_1216006.out).2.2 | (with_reducible refine Kd.C_alloc ?_ _) | (with_reducible refine Kd.C_drewN ?_ _) | (with_reducible refine Kd.C_drew ?_))); (case side2 => rw [show t1225.length = t1211.length from (Kd.R_reads' HO_1216006.out).1.symm]; exact (Kd.R_reads' HO_1216006.out).2.1); rintro e w68 ⟨rfl, hb⟩; refine ⟨_, rfl, ?_⟩; have n0_ := am_ (Kd.R_below (by (with_reducible repeat (first | apply r1_ | apply r2_ | apply r3_)); exact HO_1202006.out) hb); have n1_ := am_ (Kd.R_below (by (with_reducible repeat (first | apply r1_ | apply r2_ | apply r3_)); exact HO_1216006.out) hb); have n2_ := am_ (blk_below (g := gb1201) (o := .cells #[.bool t1191, .int .i64 t1192, .int .i64 t1193, .int .i64 t1194, .int .i64 t1195, .string t1196, .slice Ao13 t1197.length co13] 67 (0, 0)) (by (with_reducible repeat (first | apply k1_ | apply k2_ | apply k3_)); exact BK1201.out) hb); have n3_ := am_ (blk_below (g := gb1215) (o := .cells #[.bool t1205, .int .i64 t1206, .int .i64 t1207, .int .i64 t1208, .int .i64 t1209, .string t1210, .slice Ao20 t1211.length co20] 67 (0, 0)) (by (with_reducible repeat (first | apply k1_ | apply k2_ | apply k3_)); exact BK1215.out) hb); have n4_ := am_ (below_step (by repeat (first | (with_reducible first | exact HB.out | apply b1_ | apply b2_ | apply b3_ | refine below_set ?_ GE1201.out | refine below_set ?_ GE1215.out) | exact HB.out)) hb); clear HO_1202006; clear HO_1216006; clear BK1201; clear BK1215; clear HB; have HO_1202006 := n0_; have HO_1216006 := n1_; have BK1201 := n2_; have BK1215 := n3_; have HB := n4_; clear n0_ n1_ n2_ n3_ n4_; (try clear hb); (try clear hb2); (try clear hk); (try clear hi)) | ((with_reducible refine gate_callee (f := 44) rfl ?_); refine goesL_ (some 72) rfl rfl Try.func44 (by kernel_rfl) rfl #[.slice A0 l0.length c0] rfl (by (try simp only [m1_, m2_, m3_]); first | done | rfl | (simp only [d1_, d2_]; rfl)) ?_; (with_reducible refine (laws_toByteS.calls kj35 _ _ l0 t1227 _ ?side1 ?side2 A61.out).mono ?_); (case side1 => repeat (first | exact (Kd.C_below HR0.out HB.out) | (with_reducible refine Kd.C_alloc ?_ _) | (with_reducible refine Kd.C_drewN ?_ _) | (with_reducible refine Kd.C_drew ?_))); (case side2 => exact HC0.out); rintro e w69 ⟨v1228, rfl, ho0, hb⟩; refine ⟨_, rfl, ?_⟩; have n0_ := am_ (Kd.R_below (by (with_reducible repeat (first | apply r1_ | apply r2_ | apply r3_)); exact HO_1202006.out) hb); have n1_ := am_ (Kd.R_below (by (with_reducible repeat (first | apply r1_ | apply r2_ | apply r3_)); exact HO_1216006.out) hb); have n2_ := am_ (Kd.R_lower ho0 (below_size (by repeat (first | (with_reducible first | exact HB.out | apply b1_ | apply b2_ | apply b3_ | refine below_set ?_ GE1201.out | refine below_set ?_ GE1215.out) | exact HB.out)))); have n3_ := am_ (blk_below (g := gb1201) (o := .cells #[.bool t1191, .int .i64 t1192, .int .i64 t1193, .int .i64 t1194, .int .i64 t1195, .string t1196, .slice Ao13 t1197.length co13] 67 (0, 0)) (by (with_reducible repeat (first | apply k1_ | apply k2_ | apply k3_)); exact BK1201.out) hb); have n4_ := am_ (blk_below (g := gb1215) (o := .cells #[.bool t1205, .int .i64 t1206, .int .i64 t1207, .int .i64 t1208, .int .i64 t1209, .string t1210, .slice Ao20 t1211.length co20] 67 (0, 0)) (by (with_reducible repeat (first | apply k1_ | apply k2_ | apply k3_)); exact BK1215.out) hb); have n5_ := am_ (below_step (by repeat (first | (with_reducible first | exact HB.out | apply b1_ | apply b2_ | apply b3_ | refine below_set ?_ GE1201.out | refine below_set ?_ GE1215.out) | exact HB.out)) hb); clear HO_1202006; clear HO_1216006; clear BK1201; clear BK1215; clear HB; have HO_1202006 := n0_; have HO_1216006 := n1_; have HO1229 := n2_; have BK1201 := n3_; have BK1215 := n4_; have HB := n5_; clear n0_ n1_ n2_ n3_ n4_ n5_; (try clear hb); (try clear hb2); (try clear hk); (try clear hi); (try clear ho0); obtain ⟨Ao70, co70, eo70⟩ := Kd.R_slice HO1229.out; subst eo70) | ((with_reducible refine gate_callee (f := 45) rfl ?_); refine goesL_ (some 73) rfl rfl Try.func45 (by kernel_rfl) rfl #[.slice Ao70 t1227.length co70] rfl (by (try simp only [m1_, m2_, m3_]); first | done | rfl | (simp only [d1_, d2_]; rfl)) ?_; (with_reducible refine (impl_ReadBatch.calls kj35 _ _ t1227 t1230 t1231 t1232 t1233 t1234 t1235 t1236 t1239 _ ?side1 ?side2 A62.out).mono ?_); (case side1 => repeat (first | exact (Kd.R_reads' HO1229.out).2.2 | (with_reducible refine Kd.C_alloc ?_ _) | (with_reducible refine Kd.C_drewN ?_ _) | (with_reducible refine Kd.C_drew ?_))); (case side2 => exact (Kd.R_reads' HO1229.out).2.1); rintro e w71 ⟨v1237, rfl, ho0, hb⟩; refine ⟨_, rfl, ?_⟩; have n0_ := am_ (Kd.R_elder' (by (with_reducible repeat (first | apply r1_ | apply r2_ | apply r3_)); exact HO_1202006.out) (Kd.R_base ho0) hb); have n1_ := am_ (Kd.R_elder' (by (with_reducible repeat (first | apply r1_ | apply r2_ | apply r3_)); exact HO_1216006.out) (Kd.R_base ho0) hb); have n2_ := am_ (Kd.R_below (by (with_reducible repeat (first | apply r1_ | apply r2_ | apply r3_)); exact HO1229.out) hb); have n3_ := am_ (Kd.R_lower (Kd.R_new' (Kd.R_new' ho0 (Kd.R_lt (by (with_reducible repeat (first | apply r1_ | apply r2_ | apply r3_)); exact HO_1202006.out))) (Kd.R_lt (by (with_reducible repeat (first | apply r1_ | apply r2_ | apply r3_)); exact HO_1216006.out))) (below_size (by repeat (first | (with_reducible first | exact HB.out | apply b1_ | apply b2_ | apply b3_ | refine below_set ?_ GE1201.out | refine below_set ?_ GE1215.out) | exact HB.out)))); have n4_ := am_ (blk_below (g := gb1201) (o := .cells #[.bool t1191, .int .i64 t1192, .int .i64 t1193, .int .i64 t1194, .int .i64 t1195, .string t1196, .slice Ao13 t1197.length co13] 67 (0, 0)) (by (with_reducible repeat (first | apply k1_ | apply k2_ | apply k3_)); exact BK1201.out) hb); have n5_ := am_ (blk_below (g := gb1215) (o := .cells #[.bool t1205, .int .i64 t1206, .int .i64 t1207, .int .i64 t1208, .int .i64 t1209, .string t1210, .slice Ao20 t1211.length co20] 67 (0, 0)) (by (with_reducible repeat (first | apply k1_ | apply k2_ | apply k3_)); exact BK1215.out) hb); have n6_ := am_ (below_step (by repeat (first | (with_reducible first | exact HB.out | apply b1_ | apply b2_ | apply b3_ | refine below_set ?_ GE1201.out | refine below_set ?_ GE1215.out) | exact HB.out)) hb); clear HO_1202006; clear HO_1216006; clear HO1229; clear BK1201; clear BK1215; clear HB; have HO_1202006 := n0_; have HO_1216006 := n1_; have HO1229 := n2_; have HO1238 := n3_; have BK1201 := n4_; have BK1215 := n5_; have HB := n6_; clear n0_ n1_ n2_ n3_ n4_ n5_ n6_; (try clear hb); (try clear hb2); (try clear hk); (try clear hi); (try clear ho0)) | ((with_reducible refine gate_dst (N := 11) rfl ?_); refine box_event ?hg (N := 11) ?hd (cs := #[.bool false, .int .i64 0, .int .i64 0, .int .i64 0, .int .i64 0, .string (⟨#[]⟩ : ByteArray), .slice none 0 0]) (t := 67) ?hr ?_; (case hd => rfl); (case hg => rfl); (case hr => first | (go_simp; done) | (go_simp; rfl)); intro gb1240 hg w72 hbox hb; have n0_ := am_ (Kd.R_below (by (with_reducible repeat (first | apply r1_ | apply r2_ | apply r3_)); exact HO_1202006.out) hb); have n1_ := am_ (Kd.R_below (by (with_reducible repeat (first | apply r1_ | apply r2_ | apply r3_)); exact HO_1216006.out) hb); have n2_ := am_ (Kd.R_below (by (with_reducible repeat (first | apply r1_ | apply r2_ | apply r3_)); exact HO1229.out) hb); have n3_ := am_ (Kd.R_below (by (with_reducible repeat (first | apply r1_ | apply r2_ | apply r3_)); exact HO1238.out) hb); have n4_ := am_ (blk_below (g := gb1201) (o := .cells #[.bool t1191, .int .i64 t1192, .int .i64 t1193, .int .i64 t1194, .int .i64 t1195, .string t1196, .slice Ao13 t1197.length co13] 67 (0, 0)) (by (with_reducible repeat (first | apply k1_ | apply k2_ | apply k3_)); exact BK1201.out) hb); have n5_ := am_ (blk_below (g := gb1215) (o := .cells #[.bool t1205, .int .i64 t1206, .int .i64 t1207, .int .i64 t1208, .int .i64 t1209, .string t1210, .slice Ao20 t1211.length co20] 67 (0, 0)) (by (with_reducible repeat (first | apply k1_ | apply k2_ | apply k3_)); exact BK1215.out) hb); have n6_ := am_ (below_step (by repeat (first | (with_reducible first | exact HB.out | apply b1_ | apply b2_ | apply b3_ | refine below_set ?_ GE1201.out | refine below_set ?_ GE1215.out) | exact HB.out)) hb); have n7_ := am_ (hbox); have n8_ := am_ ((by rw [hg]; exact (below_size (by repeat (first | (with_reducible first | exact HB.out | apply b1_ | apply b2_ | apply b3_ | refine below_set ?_ GE1201.out | refine below_set ?_ GE1215.out) | exact HB.out))) : w.heap.size ≤ gb1240)); have n9_ := am_ ((by rw [hg]; exact (below_size (by repeat (first | (with_reducible first | exact HB.out | apply b1_ | apply b2_ | apply b3_ | refine below_set ?_ GE1201.out | refine below_set ?_ GE1215.out) | exact HB.out))) : w.heap.size ≤ gb1240)); have n10_ := am_ ((by rw [hg]; exact Nat.ne_of_lt (blk_lt (g := gb1201) (o := .cells #[.bool t1191, .int .i64 t1192, .int .i64 t1193, .int .i64 t1194, .int .i64 t1195, .string t1196, .slice Ao13 t1197.length co13] 67 (0, 0)) (by (with_reducible repeat (first | apply k1_ | apply k2_ | apply k3_)); exact BK1201.out)) : gb1201 ≠ gb1240)); have n11_ := am_ ((by rw [hg]; exact Nat.ne_of_gt (blk_lt (g := gb1201) (o := .cells #[.bool t1191, .int .i64 t1192, .int .i64 t1193, .int .i64 t1194, .int .i64 t1195, .string t1196, .slice Ao13 t1197.length co13] 67 (0, 0)) (by (with_reducible repeat (first | apply k1_ | apply k2_ | apply k3_)); exact BK1201.out)) : gb1240 ≠ gb1201)); have n12_ := am_ ((by rw [hg]; exact Nat.ne_of_lt (blk_lt (g := gb1215) (o := .cells #[.bool t1205, .int .i64 t1206, .int .i64 t1207, .int .i64 t1208, .int .i64 t1209, .string t1210, .slice Ao20 t1211.length co20] 67 (0, 0)) (by (with_reducible repeat (first | apply k1_ | apply k2_ | apply k3_)); exact BK1215.out)) : gb1215 ≠ gb1240)); have n13_ := am_ ((by rw [hg]; exact Nat.ne_of_gt (blk_lt (g := gb1215) (o := .cells #[.bool t1205, .int .i64 t1206, .int .i64 t1207, .int .i64 t1208, .int .i64 t1209, .string t1210, .slice Ao20 t1211.length co20] 67 (0, 0)) (by (with_reducible repeat (first | apply k1_ | apply k2_ | apply k3_)); exact BK1215.out)) : gb1240 ≠ gb1215)); clear HO_1202006; clear HO_1216006; clear HO1229; clear HO1238; clear BK1201; clear BK1215; clear HB; have HO_1202006 := n0_; have HO_1216006 := n1_; have HO1229 := n2_; have HO1238 := n3_; have BK1201 := n4_; have BK1215 := n5_; have HB := n6_; have BK1240 := n7_; have GW1240 := n8_; have GE1240 := n9_; have NB1201_1240 := n10_; have NB1240_1201 := n11_; have NB1215_1240 := n12_; have NB1240_1215 := n13_; clear n0_ n1_ n2_ n3_ n4_ n5_ n6_ n7_ n8_ n9_ n10_ n11_ n12_ n13_; clear hb hbox hg; have hnb73 := NB1240_1201.out; have hnc73 := NB1201_1240.out; have hnb74 := NB1240_1215.out; have hnc74 := NB1215_1240.out; have hcz75_0 : w72.cell? ⟨gb1240, 0, none⟩ = some (.bool false) := (blk_cell BK1240.out 0).trans rfl; have hcz75_1 : w72.cell? ⟨gb1240, 1, none⟩ = some (.int .i64 0) := (blk_cell BK1240.out 1).trans rfl; have hcz75_2 : w72.cell? ⟨gb1240, 2, none⟩ = some (.int .i64 0) := (blk_cell BK1240.out 2).trans rfl; have hcz75_3 : w72.cell? ⟨gb1240, 3, none⟩ = some (.int .i64 0) := (blk_cell BK1240.out 3).trans rfl; have hcz75_4 : w72.cell? ⟨gb1240, 4, none⟩ = some (.int .i64 0) := (blk_cell BK1240.out 4).trans rfl; have hcz75_5 : w72.cell? ⟨gb1240, 5, none⟩ = some (.string (⟨#[]⟩ : ByteArray)) := (blk_cell BK1240.out 5).trans rfl; have hcz75_6 : w72.cell? ⟨gb1240, 6, none⟩ = some (.slice none 0 0) := (blk_cell BK1240.out 6).trans rfl; have hfz75_0 := blk_frozen BK1240.out 0; have hfz75_1 := blk_frozen BK1240.out 1; have hfz75_2 := blk_frozen BK1240.out 2; have hfz75_3 := blk_frozen BK1240.out 3; have hfz75_4 := blk_frozen BK1240.out 4; have hfz75_5 := blk_frozen BK1240.out 5; have hfz75_6 := blk_frozen BK1240.out 6; obtain ⟨Ao76, co76, eo76⟩ := Kd.R_slice HO1238.out; subst eo76))
           (try simp only [Act.put, p1_, p2_, p3_])
           go_cut [84] (fun v84 wc => ∃ (kq : Nat) (x84_62 : Bool), v84 = .bool x84_62 ∧ Aside0 (laws_FnExactReadBatch.j2 kq t1224 x84_62 t1205 t1206 t1207 t1208 t1209 t1210 t1225 = some r) ∧ Aside0 (kq ≤ kj35) ∧ Aside0 (Kd.R k161 161 wc w.heap.size (fun k_ => some k_ ≠ ((.slice Ao20 t1211.length co20) : Value).ownBlock ∧ some k_ ≠ ((.slice Ao76 t1236.length co76) : Value).ownBlock) (.slice Ao13 t1197.length co13) t1197) ∧ Aside0 (Kd.R k161 161 wc w.heap.size (fun k_ => some k_ ≠ ((.slice Ao13 t1197.length co13) : Value).ownBlock ∧ some k_ ≠ ((.slice Ao76 t1236.length co76) : Value).ownBlock) (.slice Ao20 t1211.length co20) t1225) ∧ Aside0 (Kd.R k161 161 wc w.heap.size (fun k_ => some k_ ≠ ((.slice Ao13 t1197.length co13) : Value).ownBlock ∧ some k_ ≠ ((.slice Ao20 t1211.length co20) : Value).ownBlock) (.slice Ao76 t1236.length co76) t1236) ∧ Aside0 (wc.heap[gb1201]? = some (.cells #[.bool t1191, .int .i64 t1192, .int .i64 t1193, .int .i64 t1194, .int .i64 t1195, .string t1196, (.slice Ao13 t1197.length co13)] 67 (0, 0))) ∧ Aside0 (wc.heap[gb1215]? = some (.cells #[.bool t1205, .int .i64 t1206, .int .i64 t1207, .int .i64 t1208, .int .i64 t1209, .string t1210, (.slice Ao20 t1211.length co20)] 67 (0, 0))) ∧ Aside0 (wc.heap[gb1240]? = some (.cells #[.bool t1230, .int .i64 t1231, .int .i64 t1232, .int .i64 t1233, .int .i64 t1234, .string t1235, (.slice Ao76 t1236.length co76)] 67 (0, 0))) ∧ Aside0 (Below w.heap.size w wc))
           case first =>
            have H := HC63.out
            clear HC63
            replace H := Option.bind_eq_some_iff.mp H
            obtain ⟨t1241, A770, H⟩ := H
            replace H : (if t1241 = true then (laws_FnExactReadBatch.j2 kj35 t1224 (t1239 != t1200) t1205 t1206 t1207 t1208 t1209 t1210 t1225) else (laws_FnExactReadBatch.j2 kj35 t1224 true t1205 t1206 t1207 t1208 t1209 t1210 t1225)) = some r := H
            have A77 := am_ A770
            clear A770
            by_cases c78 : t1241 = true
            ·subst c78
             have H1 : (laws_FnExactReadBatch.j2 kj35 t1224 (t1239 != t1200) t1205 t1206 t1207 t1208 t1209 t1210 t1225) = some r := by rw [if_pos rfl] at H; exact H
             clear H
             have H := H1
             clear H1
             have H' := am_ H
             clear H
             have hnb79 := NB1240_1201.out
             have hnc79 := NB1201_1240.out
             have hnb80 := NB1240_1215.out
             have hnc80 := NB1215_1240.out
             have hcz81_0 : w72.cell? ⟨gb1240, 0, none⟩ = some (.bool false) := (blk_cell BK1240.out 0).trans rfl
             have hcz81_1 : w72.cell? ⟨gb1240, 1, none⟩ = some (.int .i64 0) := (blk_cell BK1240.out 1).trans rfl
             have hcz81_2 : w72.cell? ⟨gb1240, 2, none⟩ = some (.int .i64 0) := (blk_cell BK1240.out 2).trans rfl
             have hcz81_3 : w72.cell? ⟨gb1240, 3, none⟩ = some (.int .i64 0) := (blk_cell BK1240.out 3).trans rfl
             have hcz81_4 : w72.cell? ⟨gb1240, 4, none⟩ = some (.int .i64 0) := (blk_cell BK1240.out 4).trans rfl
             have hcz81_5 : w72.cell? ⟨gb1240, 5, none⟩ = some (.string (⟨#[]⟩ : ByteArray)) := (blk_cell BK1240.out 5).trans rfl
             have hcz81_6 : w72.cell? ⟨gb1240, 6, none⟩ = some (.slice none 0 0) := (blk_cell BK1240.out 6).trans rfl
             have hfz81_0 := blk_frozen BK1240.out 0
             have hfz81_1 := blk_frozen BK1240.out 1
             have hfz81_2 := blk_frozen BK1240.out 2
             have hfz81_3 := blk_frozen BK1240.out 3
             have hfz81_4 := blk_frozen BK1240.out 4
             have hfz81_5 := blk_frozen BK1240.out 5
             have hfz81_6 := blk_frozen BK1240.out 6
             have hnb82 := NB1201_1215.out
             have hnc82 := NB1215_1201.out
             have hcz83_0 : w72.cell? ⟨gb1201, 0, none⟩ = some (.bool t1191) := (blk_cell BK1201.out 0).trans rfl
             have hcz83_1 : w72.cell? ⟨gb1201, 1, none⟩ = some (.int .i64 t1192) := (blk_cell BK1201.out 1).trans rfl
             have hcz83_2 : w72.cell? ⟨gb1201, 2, none⟩ = some (.int .i64 t1193) := (blk_cell BK1201.out 2).trans rfl
             have hcz83_3 : w72.cell? ⟨gb1201, 3, none⟩ = some (.int .i64 t1194) := (blk_cell BK1201.out 3).trans rfl
             have hcz83_4 : w72.cell? ⟨gb1201, 4, none⟩ = some (.int .i64 t1195) := (blk_cell BK1201.out 4).trans rfl
             have hcz83_5 : w72.cell? ⟨gb1201, 5, none⟩ = some (.string t1196) := (blk_cell BK1201.out 5).trans rfl
             have hcz83_6 : w72.cell? ⟨gb1201, 6, none⟩ = some (.slice Ao13 t1197.length co13) := (blk_cell BK1201.out 6).trans rfl
             have hfz83_0 := blk_frozen BK1201.out 0
             have hfz83_1 := blk_frozen BK1201.out 1
             have hfz83_2 := blk_frozen BK1201.out 2
             have hfz83_3 := blk_frozen BK1201.out 3
             have hfz83_4 := blk_frozen BK1201.out 4
             have hfz83_5 := blk_frozen BK1201.out 5
             have hfz83_6 := blk_frozen BK1201.out 6
             go_wp2_with (first | ((with_reducible refine gate_callee (f := 46) rfl ?_); refine goesL_ (some 78) rfl rfl Try.func46 (by kernel_rfl) rfl #[.agg #[.bool t1230, .int .i64 t1231, .int .i64 t1232, .int .i64 t1233, .int .i64 t1234, .string t1235, .slice Ao76 t1236.length co76], .agg #[.bool t1191, .int .i64 t1192, .int .i64 t1193, .int .i64 t1194, .int .i64 t1195, .string t1196, .slice Ao13 t1197.length co13]] rfl (by (try simp only [m1_, m2_, m3_]); first | done | rfl | (simp only [d1_, d2_]; rfl)) ?_; (with_reducible refine (laws_eqBatch.calls kj35 t1230 t1231 t1232 t1233 t1234 t1235 _ _ t1236 t1191 t1192 t1193 t1194 t1195 t1196 _ _ t1197 true _ ?side1 ?side2 ?side3 ?side4 A77.out).mono ?_); (case side1 => refine (Kd.R_reads' (e := 161) (base := w.heap.size) (ok := fun k_ => ((True ∧ some k_ ≠ (.slice Ao13 t1197.length co13 : Value).ownBlock) ∧ some k_ ≠ (.slice Ao20 t1211.length co20 : Value).ownBlock)) (n := t1236.length) (c := co76) ?_).2.2; exact (by (with_reducible repeat (first | apply r1_ | apply r2_ | apply r3_)); exact (Kd.R_mono (Kd.Rf (Kd.Rf (Kd.Rf (Kd.Rf (Kd.Rf (Kd.Rf (Kd.Rf (Kd.R_types HO1238.out BK1240.out (by decide))))))))) (fun _ h_ => h_.1)))); (case side2 => exact (Kd.R_reads' HO1238.out).2.1); (case side3 => refine (Kd.R_reads' (e := 161) (base := w.heap.size) (ok := fun k_ => (some k_ ≠ (.slice Ao20 t1211.length co20 : Value).ownBlock ∧ some k_ ≠ (.slice Ao76 t1236.length co76 : Value).ownBlock)) (n := t1197.length) (c := co13) ?_).2.2; exact (by (with_reducible repeat (first | apply r1_ | apply r2_ | apply r3_)); exact (Kd.R_mono (Kd.Rf (Kd.Rf (Kd.Rf (Kd.Rf (Kd.Rf (Kd.Rf (Kd.Rf (Kd.R_types HO_1202006.out BK1240.out (by decide))))))))) (fun _ h_ => h_.1)))); (case side4 => exact (Kd.R_reads' HO_1202006.out).2.1); rintro e w84 ⟨rfl, hb⟩; refine ⟨_, rfl, ?_⟩; have n0_ := am_ (Kd.R_below (by (with_reducible repeat (first | apply r1_ | apply r2_ | apply r3_)); exact (Kd.R_mono (Kd.Rf (Kd.Rf (Kd.Rf (Kd.Rf (Kd.Rf (Kd.Rf (Kd.Rf (Kd.R_types HO_1202006.out BK1240.out (by decide))))))))) (fun _ h_ => h_.1))) hb); have n1_ := am_ (Kd.R_below (by (with_reducible repeat (first | apply r1_ | apply r2_ | apply r3_)); exact (Kd.R_mono (Kd.Rf (Kd.Rf (Kd.Rf (Kd.Rf (Kd.Rf (Kd.Rf (Kd.Rf (Kd.R_types HO_1216006.out BK1240.out (by decide))))))))) (fun _ h_ => h_.1))) hb); have n2_ := am_ (Kd.R_below (by (with_reducible repeat (first | apply r1_ | apply r2_ | apply r3_)); exact (Kd.R_mono (Kd.Rf (Kd.Rf (Kd.Rf (Kd.Rf (Kd.Rf (Kd.Rf (Kd.Rf (Kd.R_types HO1229.out BK1240.out (by decide))))))))) (fun _ h_ => h_.1))) hb); have n3_ := am_ (Kd.R_below (by (with_reducible repeat (first | apply r1_ | apply r2_ | apply r3_)); exact (Kd.R_mono (Kd.Rf (Kd.Rf (Kd.Rf (Kd.Rf (Kd.Rf (Kd.Rf (Kd.Rf (Kd.R_types HO1238.out BK1240.out (by decide))))))))) (fun _ h_ => h_.1))) hb); have n4_ := am_ (blk_below (g := gb1201) (o := .cells #[.bool t1191, .int .i64 t1192, .int .i64 t1193, .int .i64 t1194, .int .i64 t1195, .string t1196, .slice Ao13 t1197.length co13] 67 (0, 0)) (by (with_reducible repeat (first | apply k1_ | apply k2_ | apply k3_)); refine blk_far ?_ NB1201_1240.out _; (with_reducible repeat (first | apply k1_ | apply k2_ | apply k3_)); refine blk_far ?_ NB1201_1240.out _; (with_reducible repeat (first | apply k1_ | apply k2_ | apply k3_)); refine blk_far ?_ NB1201_1240.out _; (with_reducible repeat (first | apply k1_ | apply k2_ | apply k3_)); refine blk_far ?_ NB1201_1240.out _; (with_reducible repeat (first | apply k1_ | apply k2_ | apply k3_)); refine blk_far ?_ NB1201_1240.out _; (with_reducible repeat (first | apply k1_ | apply k2_ | apply k3_)); refine blk_far ?_ NB1201_1240.out _; (with_reducible repeat (first | apply k1_ | apply k2_ | apply k3_)); refine blk_far ?_ NB1201_1240.out _; (with_reducible repeat (first | apply k1_ | apply k2_ | apply k3_)); exact BK1201.out) hb); have n5_ := am_ (blk_below (g := gb1215) (o := .cells #[.bool t1205, .int .i64 t1206, .int .i64 t1207, .int .i64 t1208, .int .i64 t1209, .string t1210, .slice Ao20 t1211.length co20] 67 (0, 0)) (by (with_reducible repeat (first | apply k1_ | apply k2_ | apply k3_)); refine blk_far ?_ NB1215_1240.out _; (with_reducible repeat (first | apply k1_ | apply k2_ | apply k3_)); refine blk_far ?_ NB1215_1240.out _; (with_reducible repeat (first | apply k1_ | apply k2_ | apply k3_)); refine blk_far ?_ NB1215_1240.out _; (with_reducible repeat (first | apply k1_ | apply k2_ | apply k3_)); refine blk_far ?_ NB1215_1240.out _; (with_reducible repeat (first | apply k1_ | apply k2_ | apply k3_)); refine blk_far ?_ NB1215_1240.out _; (with_reducible repeat (first | apply k1_ | apply k2_ | apply k3_)); refine blk_far ?_ NB1215_1240.out _; (with_reducible repeat (first | apply k1_ | apply k2_ | apply k3_)); refine blk_far ?_ NB1215_1240.out _; (with_reducible repeat (first | apply k1_ | apply k2_ | apply k3_)); exact BK1215.out) hb); have n6_ := am_ (blk_below (g := gb1240) (o := .cells #[.bool t1230, .int .i64 t1231, .int .i64 t1232, .int .i64 t1233, .int .i64 t1234, .string t1235, .slice Ao76 t1236.length co76] 67 (0, 0)) (by (with_reducible repeat (first | apply k1_ | apply k2_ | apply k3_)); refine blk_put (cs := #[.bool t1230, .int .i64 t1231, .int .i64 t1232, .int .i64 t1233, .int .i64 t1234, .string t1235, .slice none 0 0]) ?_ 6 _ rfl; (with_reducible repeat (first | apply k1_ | apply k2_ | apply k3_)); refine blk_put (cs := #[.bool t1230, .int .i64 t1231, .int .i64 t1232, .int .i64 t1233, .int .i64 t1234, .string (⟨#[]⟩ : ByteArray), .slice none 0 0]) ?_ 5 _ rfl; (with_reducible repeat (first | apply k1_ | apply k2_ | apply k3_)); refine blk_put (cs := #[.bool t1230, .int .i64 t1231, .int .i64 t1232, .int .i64 t1233, .int .i64 0, .string (⟨#[]⟩ : ByteArray), .slice none 0 0]) ?_ 4 _ rfl; (with_reducible repeat (first | apply k1_ | apply k2_ | apply k3_)); refine blk_put (cs := #[.bool t1230, .int .i64 t1231, .int .i64 t1232, .int .i64 0, .int .i64 0, .string (⟨#[]⟩ : ByteArray), .slice none 0 0]) ?_ 3 _ rfl; (with_reducible repeat (first | apply k1_ | apply k2_ | apply k3_)); refine blk_put (cs := #[.bool t1230, .int .i64 t1231, .int .i64 0, .int .i64 0, .int .i64 0, .string (⟨#[]⟩ : ByteArray), .slice none 0 0]) ?_ 2 _ rfl; (with_reducible repeat (first | apply k1_ | apply k2_ | apply k3_)); refine blk_put (cs := #[.bool t1230, .int .i64 0, .int .i64 0, .int .i64 0, .int .i64 0, .string (⟨#[]⟩ : ByteArray), .slice none 0 0]) ?_ 1 _ rfl; (with_reducible repeat (first | apply k1_ | apply k2_ | apply k3_)); refine blk_put (cs := #[.bool false, .int .i64 0, .int .i64 0, .int .i64 0, .int .i64 0, .string (⟨#[]⟩ : ByteArray), .slice none 0 0]) ?_ 0 _ rfl; (with_reducible repeat (first | apply k1_ | apply k2_ | apply k3_)); exact BK1240.out) hb); have n7_ := am_ (below_step (by repeat (first | (with_reducible first | exact HB.out | apply b1_ | apply b2_ | apply b3_ | refine below_set ?_ GE1201.out | refine below_set ?_ GE1215.out | refine below_set ?_ GE1240.out) | exact HB.out)) hb); clear HO_1202006; clear HO_1216006; clear HO1229; clear HO1238; clear BK1201; clear BK1215; clear BK1240; clear HB; have HO_1202006 := n0_; have HO_1216006 := n1_; have HO1229 := n2_; have HO1238 := n3_; have BK1201 := n4_; have BK1215 := n5_; have BK1240 := n6_; have HB := n7_; clear n0_ n1_ n2_ n3_ n4_ n5_ n6_ n7_; (try clear hb); (try clear hb2); (try clear hk); (try clear hi)))
             go_meet
             case rel => exact ⟨_, ((t1239 != t1200)), (by first | rfl | (simp; done) | (simp [*]; done)), H', ⟨by have := HJ6.out; have := HJ35.out; first | omega | exact Nat.le_refl _⟩, ⟨by (with_reducible repeat (first | apply r1_ | apply r2_ | apply r3_)); exact HO_1202006.out⟩, ⟨by (with_reducible repeat (first | apply r1_ | apply r2_ | apply r3_)); exact HO_1216006.out⟩, ⟨by (with_reducible repeat (first | apply r1_ | apply r2_ | apply r3_)); exact Kd.R_mono HO1238.out (fun _ hk => ⟨hk.1.2, hk.2⟩)⟩, ⟨by (with_reducible repeat (first | apply k1_ | apply k2_ | apply k3_)); exact BK1201.out⟩, ⟨by (with_reducible repeat (first | apply k1_ | apply k2_ | apply k3_)); exact BK1215.out⟩, ⟨by (with_reducible repeat (first | apply k1_ | apply k2_ | apply k3_)); exact BK1240.out⟩, ⟨by repeat (first | (with_reducible first | exact HB.out | apply b1_ | apply b2_ | apply b3_ | refine below_set ?_ GE1201.out | refine below_set ?_ GE1215.out | refine below_set ?_ GE1240.out) | exact HB.out)⟩⟩
            ·replace c78 := Bool.eq_false_iff.mpr c78
             subst c78
             have H1 : (laws_FnExactReadBatch.j2 kj35 t1224 true t1205 t1206 t1207 t1208 t1209 t1210 t1225) = some r := by rw [if_neg (show ¬ (false = true) by decide)] at H; exact H
             clear H
             have H := H1
             clear H1
             have H' := am_ H
             clear H
             have hnb85 := NB1240_1201.out
             have hnc85 := NB1201_1240.out
             have hnb86 := NB1240_1215.out
             have hnc86 := NB1215_1240.out
             have hcz87_0 : w72.cell? ⟨gb1240, 0, none⟩ = some (.bool false) := (blk_cell BK1240.out 0).trans rfl
             have hcz87_1 : w72.cell? ⟨gb1240, 1, none⟩ = some (.int .i64 0) := (blk_cell BK1240.out 1).trans rfl
             have hcz87_2 : w72.cell? ⟨gb1240, 2, none⟩ = some (.int .i64 0) := (blk_cell BK1240.out 2).trans rfl
             have hcz87_3 : w72.cell? ⟨gb1240, 3, none⟩ = some (.int .i64 0) := (blk_cell BK1240.out 3).trans rfl
             have hcz87_4 : w72.cell? ⟨gb1240, 4, none⟩ = some (.int .i64 0) := (blk_cell BK1240.out 4).trans rfl
             have hcz87_5 : w72.cell? ⟨gb1240, 5, none⟩ = some (.string (⟨#[]⟩ : ByteArray)) := (blk_cell BK1240.out 5).trans rfl
             have hcz87_6 : w72.cell? ⟨gb1240, 6, none⟩ = some (.slice none 0 0) := (blk_cell BK1240.out 6).trans rfl
             have hfz87_0 := blk_frozen BK1240.out 0
             have hfz87_1 := blk_frozen BK1240.out 1
             have hfz87_2 := blk_frozen BK1240.out 2
             have hfz87_3 := blk_frozen BK1240.out 3
             have hfz87_4 := blk_frozen BK1240.out 4
             have hfz87_5 := blk_frozen BK1240.out 5
             have hfz87_6 := blk_frozen BK1240.out 6
             have hnb88 := NB1201_1215.out
             have hnc88 := NB1215_1201.out
             have hcz89_0 : w72.cell? ⟨gb1201, 0, none⟩ = some (.bool t1191) := (blk_cell BK1201.out 0).trans rfl
             have hcz89_1 : w72.cell? ⟨gb1201, 1, none⟩ = some (.int .i64 t1192) := (blk_cell BK1201.out 1).trans rfl
             have hcz89_2 : w72.cell? ⟨gb1201, 2, none⟩ = some (.int .i64 t1193) := (blk_cell BK1201.out 2).trans rfl
             have hcz89_3 : w72.cell? ⟨gb1201, 3, none⟩ = some (.int .i64 t1194) := (blk_cell BK1201.out 3).trans rfl
             have hcz89_4 : w72.cell? ⟨gb1201, 4, none⟩ = some (.int .i64 t1195) := (blk_cell BK1201.out 4).trans rfl
             have hcz89_5 : w72.cell? ⟨gb1201, 5, none⟩ = some (.string t1196) := (blk_cell BK1201.out 5).trans rfl
             have hcz89_6 : w72.cell? ⟨gb1201, 6, none⟩ = some (.slice Ao13 t1197.length co13) := (blk_cell BK1201.out 6).trans rfl
             have hfz89_0 := blk_frozen BK1201.out 0
             have hfz89_1 := blk_frozen BK1201.out 1
             have hfz89_2 := blk_frozen BK1201.out 2
             have hfz89_3 := blk_frozen BK1201.out 3
             have hfz89_4 := blk_frozen BK1201.out 4
             have hfz89_5 := blk_frozen BK1201.out 5
             have hfz89_6 := blk_frozen BK1201.out 6
             go_wp2_with (first | ((with_reducible refine gate_callee (f := 46) rfl ?_); refine goesL_ (some 78) rfl rfl Try.func46 (by kernel_rfl) rfl #[.agg #[.bool t1230, .int .i64 t1231, .int .i64 t1232, .int .i64 t1233, .int .i64 t1234, .string t1235, .slice Ao76 t1236.length co76], .agg #[.bool t1191, .int .i64 t1192, .int .i64 t1193, .int .i64 t1194, .int .i64 t1195, .string t1196, .slice Ao13 t1197.length co13]] rfl (by (try simp only [m1_, m2_, m3_]); first | done | rfl | (simp only [d1_, d2_]; rfl)) ?_; (with_reducible refine (laws_eqBatch.calls kj35 t1230 t1231 t1232 t1233 t1234 t1235 _ _ t1236 t1191 t1192 t1193 t1194 t1195 t1196 _ _ t1197 false _ ?side1 ?side2 ?side3 ?side4 A77.out).mono ?_); (case side1 => refine (Kd.R_reads' (e := 161) (base := w.heap.size) (ok := fun k_ => ((True ∧ some k_ ≠ (.slice Ao13 t1197.length co13 : Value).ownBlock) ∧ some k_ ≠ (.slice Ao20 t1211.length co20 : Value).ownBlock)) (n := t1236.length) (c := co76) ?_).2.2; exact (by (with_reducible repeat (first | apply r1_ | apply r2_ | apply r3_)); exact (Kd.R_mono (Kd.Rf (Kd.Rf (Kd.Rf (Kd.Rf (Kd.Rf (Kd.Rf (Kd.Rf (Kd.R_types HO1238.out BK1240.out (by decide))))))))) (fun _ h_ => h_.1)))); (case side2 => exact (Kd.R_reads' HO1238.out).2.1); (case side3 => refine (Kd.R_reads' (e := 161) (base := w.heap.size) (ok := fun k_ => (some k_ ≠ (.slice Ao20 t1211.length co20 : Value).ownBlock ∧ some k_ ≠ (.slice Ao76 t1236.length co76 : Value).ownBlock)) (n := t1197.length) (c := co13) ?_).2.2; exact (by (with_reducible repeat (first | apply r1_ | apply r2_ | apply r3_)); exact (Kd.R_mono (Kd.Rf (Kd.Rf (Kd.Rf (Kd.Rf (Kd.Rf (Kd.Rf (Kd.Rf (Kd.R_types HO_1202006.out BK1240.out (by decide))))))))) (fun _ h_ => h_.1)))); (case side4 => exact (Kd.R_reads' HO_1202006.out).2.1); rintro e w90 ⟨rfl, hb⟩; refine ⟨_, rfl, ?_⟩; have n0_ := am_ (Kd.R_below (by (with_reducible repeat (first | apply r1_ | apply r2_ | apply r3_)); exact (Kd.R_mono (Kd.Rf (Kd.Rf (Kd.Rf (Kd.Rf (Kd.Rf (Kd.Rf (Kd.Rf (Kd.R_types HO_1202006.out BK1240.out (by decide))))))))) (fun _ h_ => h_.1))) hb); have n1_ := am_ (Kd.R_below (by (with_reducible repeat (first | apply r1_ | apply r2_ | apply r3_)); exact (Kd.R_mono (Kd.Rf (Kd.Rf (Kd.Rf (Kd.Rf (Kd.Rf (Kd.Rf (Kd.Rf (Kd.R_types HO_1216006.out BK1240.out (by decide))))))))) (fun _ h_ => h_.1))) hb); have n2_ := am_ (Kd.R_below (by (with_reducible repeat (first | apply r1_ | apply r2_ | apply r3_)); exact (Kd.R_mono (Kd.Rf (Kd.Rf (Kd.Rf (Kd.Rf (Kd.Rf (Kd.Rf (Kd.Rf (Kd.R_types HO1229.out BK1240.out (by decide))))))))) (fun _ h_ => h_.1))) hb); have n3_ := am_ (Kd.R_below (by (with_reducible repeat (first | apply r1_ | apply r2_ | apply r3_)); exact (Kd.R_mono (Kd.Rf (Kd.Rf (Kd.Rf (Kd.Rf (Kd.Rf (Kd.Rf (Kd.Rf (Kd.R_types HO1238.out BK1240.out (by decide))))))))) (fun _ h_ => h_.1))) hb); have n4_ := am_ (blk_below (g := gb1201) (o := .cells #[.bool t1191, .int .i64 t1192, .int .i64 t1193, .int .i64 t1194, .int .i64 t1195, .string t1196, .slice Ao13 t1197.length co13] 67 (0, 0)) (by (with_reducible repeat (first | apply k1_ | apply k2_ | apply k3_)); refine blk_far ?_ NB1201_1240.out _; (with_reducible repeat (first | apply k1_ | apply k2_ | apply k3_)); refine blk_far ?_ NB1201_1240.out _; (with_reducible repeat (first | apply k1_ | apply k2_ | apply k3_)); refine blk_far ?_ NB1201_1240.out _; (with_reducible repeat (first | apply k1_ | apply k2_ | apply k3_)); refine blk_far ?_ NB1201_1240.out _; (with_reducible repeat (first | apply k1_ | apply k2_ | apply k3_)); refine blk_far ?_ NB1201_1240.out _; (with_reducible repeat (first | apply k1_ | apply k2_ | apply k3_)); refine blk_far ?_ NB1201_1240.out _; (with_reducible repeat (first | apply k1_ | apply k2_ | apply k3_)); refine blk_far ?_ NB1201_1240.out _; (with_reducible repeat (first | apply k1_ | apply k2_ | apply k3_)); exact BK1201.out) hb); have n5_ := am_ (blk_below (g := gb1215) (o := .cells #[.bool t1205, .int .i64 t1206, .int .i64 t1207, .int .i64 t1208, .int .i64 t1209, .string t1210, .slice Ao20 t1211.length co20] 67 (0, 0)) (by (with_reducible repeat (first | apply k1_ | apply k2_ | apply k3_)); refine blk_far ?_ NB1215_1240.out _; (with_reducible repeat (first | apply k1_ | apply k2_ | apply k3_)); refine blk_far ?_ NB1215_1240.out _; (with_reducible repeat (first | apply k1_ | apply k2_ | apply k3_)); refine blk_far ?_ NB1215_1240.out _; (with_reducible repeat (first | apply k1_ | apply k2_ | apply k3_)); refine blk_far ?_ NB1215_1240.out _; (with_reducible repeat (first | apply k1_ | apply k2_ | apply k3_)); refine blk_far ?_ NB1215_1240.out _; (with_reducible repeat (first | apply k1_ | apply k2_ | apply k3_)); refine blk_far ?_ NB1215_1240.out _; (with_reducible repeat (first | apply k1_ | apply k2_ | apply k3_)); refine blk_far ?_ NB1215_1240.out _; (with_reducible repeat (first | apply k1_ | apply k2_ | apply k3_)); exact BK1215.out) hb); have n6_ := am_ (blk_below (g := gb1240) (o := .cells #[.bool t1230, .int .i64 t1231, .int .i64 t1232, .int .i64 t1233, .int .i64 t1234, .string t1235, .slice Ao76 t1236.length co76] 67 (0, 0)) (by (with_reducible repeat (first | apply k1_ | apply k2_ | apply k3_)); refine blk_put (cs := #[.bool t1230, .int .i64 t1231, .int .i64 t1232, .int .i64 t1233, .int .i64 t1234, .string t1235, .slice none 0 0]) ?_ 6 _ rfl; (with_reducible repeat (first | apply k1_ | apply k2_ | apply k3_)); refine blk_put (cs := #[.bool t1230, .int .i64 t1231, .int .i64 t1232, .int .i64 t1233, .int .i64 t1234, .string (⟨#[]⟩ : ByteArray), .slice none 0 0]) ?_ 5 _ rfl; (with_reducible repeat (first | apply k1_ | apply k2_ | apply k3_)); refine blk_put (cs := #[.bool t1230, .int .i64 t1231, .int .i64 t1232, .int .i64 t1233, .int .i64 0, .string (⟨#[]⟩ : ByteArray), .slice none 0 0]) ?_ 4 _ rfl; (with_reducible repeat (first | apply k1_ | apply k2_ | apply k3_)); refine blk_put (cs := #[.bool t1230, .int .i64 t1231, .int .i64 t1232, .int .i64 0, .int .i64 0, .string (⟨#[]⟩ : ByteArray), .slice none 0 0]) ?_ 3 _ rfl; (with_reducible repeat (first | apply k1_ | apply k2_ | apply k3_)); refine blk_put (cs := #[.bool t1230, .int .i64 t1231, .int .i64 0, .int .i64 0, .int .i64 0, .string (⟨#[]⟩ : ByteArray), .slice none 0 0]) ?_ 2 _ rfl; (with_reducible repeat (first | apply k1_ | apply k2_ | apply k3_)); refine blk_put (cs := #[.bool t1230, .int .i64 0, .int .i64 0, .int .i64 0, .int .i64 0, .string (⟨#[]⟩ : ByteArray), .slice none 0 0]) ?_ 1 _ rfl; (with_reducible repeat (first | apply k1_ | apply k2_ | apply k3_)); refine blk_put (cs := #[.bool false, .int .i64 0, .int .i64 0, .int .i64 0, .int .i64 0, .string (⟨#[]⟩ : ByteArray), .slice none 0 0]) ?_ 0 _ rfl; (with_reducible repeat (first | apply k1_ | apply k2_ | apply k3_)); exact BK1240.out) hb); have n7_ := am_ (below_step (by repeat (first | (with_reducible first | exact HB.out | apply b1_ | apply b2_ | apply b3_ | refine below_set ?_ GE1201.out | refine below_set ?_ GE1215.out | refine below_set ?_ GE1240.out) | exact HB.out)) hb); clear HO_1202006; clear HO_1216006; clear HO1229; clear HO1238; clear BK1201; clear BK1215; clear BK1240; clear HB; have HO_1202006 := n0_; have HO_1216006 := n1_; have HO1229 := n2_; have HO1238 := n3_; have BK1201 := n4_; have BK1215 := n5_; have BK1240 := n6_; have HB := n7_; clear n0_ n1_ n2_ n3_ n4_ n5_ n6_ n7_; (try clear hb); (try clear hb2); (try clear hk); (try clear hi)))
             go_meet
             case rel => exact ⟨_, (true), (by first | rfl | (simp; done) | (simp [*]; done)), H', ⟨by have := HJ6.out; have := HJ35.out; first | omega | exact Nat.le_refl _⟩, ⟨by (with_reducible repeat (first | apply r1_ | apply r2_ | apply r3_)); exact HO_1202006.out⟩, ⟨by (with_reducible repeat (first | apply r1_ | apply r2_ | apply r3_)); exact HO_1216006.out⟩, ⟨by (with_reducible repeat (first | apply r1_ | apply r2_ | apply r3_)); exact Kd.R_mono HO1238.out (fun _ hk => ⟨hk.1.2, hk.2⟩)⟩, ⟨by (with_reducible repeat (first | apply k1_ | apply k2_ | apply k3_)); exact BK1201.out⟩, ⟨by (with_reducible repeat (first | apply k1_ | apply k2_ | apply k3_)); exact BK1215.out⟩, ⟨by (with_reducible repeat (first | apply k1_ | apply k2_ | apply k3_)); exact BK1240.out⟩, ⟨by repeat (first | (with_reducible first | exact HB.out | apply b1_ | apply b2_ | apply b3_ | refine below_set ?_ GE1201.out | refine below_set ?_ GE1215.out | refine below_set ?_ GE1240.out) | exact HB.out)⟩⟩
           case rest =>
            clear HC63
            try clear c1
            try clear c2
            try clear c2b0
            try clear c2b1
            try clear p2
            try clear c3
            try clear c4
            try clear c5
            try clear c6
            try clear c7
            try clear c8
            try clear c15
            try clear c18
            try clear c22
            try clear c23
            try clear c27
            try clear c31
            try clear c34
            try clear c40
            try clear c40b0
            try clear c42
            try clear c43
            try clear c44
            try clear c45
            try clear c46
            try clear c47
            try clear c48
            try clear c51
            try clear c54
            try clear c54b0
            try clear c55
            try clear c60
            try clear c60b0
            try clear c60b1
            try clear c64
            try clear c73
            try clear c74
            try clear c78
            try clear c79
            try clear c80
            try clear c82
            try clear c85
            try clear c86
            try clear c88
            try clear hcz12_0
            try clear hcz12_1
            try clear hcz12_2
            try clear hcz12_3
            try clear hcz12_4
            try clear hcz12_5
            try clear hcz12_6
            try clear hcz19_0
            try clear hcz19_1
            try clear hcz19_2
            try clear hcz19_3
            try clear hcz19_4
            try clear hcz19_5
            try clear hcz19_6
            try clear hcz24_0
            try clear hcz24_1
            try clear hcz24_2
            try clear hcz24_3
            try clear hcz24_4
            try clear hcz24_5
            try clear hcz24_6
            try clear hcz25_0
            try clear hcz25_1
            try clear hcz25_2
            try clear hcz25_3
            try clear hcz25_4
            try clear hcz25_5
            try clear hcz25_6
            try clear hcz28_0
            try clear hcz28_1
            try clear hcz28_2
            try clear hcz28_3
            try clear hcz28_4
            try clear hcz28_5
            try clear hcz28_6
            try clear hcz29_0
            try clear hcz29_1
            try clear hcz29_2
            try clear hcz29_3
            try clear hcz29_4
            try clear hcz29_5
            try clear hcz29_6
            try clear hcz44_0
            try clear hcz44_1
            try clear hcz44_2
            try clear hcz44_3
            try clear hcz44_4
            try clear hcz44_5
            try clear hcz44_6
            try clear hcz45_0
            try clear hcz45_1
            try clear hcz45_2
            try clear hcz45_3
            try clear hcz45_4
            try clear hcz45_5
            try clear hcz45_6
            try clear hcz48_0
            try clear hcz48_1
            try clear hcz48_2
            try clear hcz48_3
            try clear hcz48_4
            try clear hcz48_5
            try clear hcz48_6
            try clear hcz49_0
            try clear hcz49_1
            try clear hcz49_2
            try clear hcz49_3
            try clear hcz49_4
            try clear hcz49_5
            try clear hcz49_6
            try clear hcz56_0
            try clear hcz56_1
            try clear hcz56_2
            try clear hcz56_3
            try clear hcz56_4
            try clear hcz56_5
            try clear hcz56_6
            try clear hcz58_0
            try clear hcz58_1
            try clear hcz58_2
            try clear hcz58_3
            try clear hcz58_4
            try clear hcz58_5
            try clear hcz58_6
            try clear hcz65_0
            try clear hcz65_1
            try clear hcz65_2
            try clear hcz65_3
            try clear hcz65_4
            try clear hcz65_5
            try clear hcz65_6
            try clear hcz67_0
            try clear hcz67_1
            try clear hcz67_2
            try clear hcz67_3
            try clear hcz67_4
            try clear hcz67_5
            try clear hcz67_6
            try clear hcz75_0
            try clear hcz75_1
            try clear hcz75_2
            try clear hcz75_3
            try clear hcz75_4
            try clear hcz75_5
            try clear hcz75_6
            try clear hcz81_0
            try clear hcz81_1
            try clear hcz81_2
            try clear hcz81_3
            try clear hcz81_4
            try clear hcz81_5
            try clear hcz81_6
            try clear hcz83_0
            try clear hcz83_1
            try clear hcz83_2
            try clear hcz83_3
            try clear hcz83_4
            try clear hcz83_5
            try clear hcz83_6
            try clear hcz87_0
            try clear hcz87_1
            try clear hcz87_2
            try clear hcz87_3
            try clear hcz87_4
            try clear hcz87_5
            try clear hcz87_6
            try clear hcz89_0
            try clear hcz89_1
            try clear hcz89_2
            try clear hcz89_3
            try clear hcz89_4
            try clear hcz89_5
            try clear hcz89_6
            try clear hfz12_0
            try clear hfz12_1
            try clear hfz12_2
            try clear hfz12_3
            try clear hfz12_4
            try clear hfz12_5
            try clear hfz12_6
            try clear hfz19_0
            try clear hfz19_1
            try clear hfz19_2
            try clear hfz19_3
            try clear hfz19_4
            try clear hfz19_5
            try clear hfz19_6
            try clear hfz24_0
            try clear hfz24_1
            try clear hfz24_2
            try clear hfz24_3
            try clear hfz24_4
            try clear hfz24_5
            try clear hfz24_6
            try clear hfz25_0
            try clear hfz25_1
            try clear hfz25_2
            try clear hfz25_3
            try clear hfz25_4
            try clear hfz25_5
            try clear hfz25_6
            try clear hfz28_0
            try clear hfz28_1
            try clear hfz28_2
            try clear hfz28_3
            try clear hfz28_4
            try clear hfz28_5
            try clear hfz28_6
            try clear hfz29_0
            try clear hfz29_1
            try clear hfz29_2
            try clear hfz29_3
            try clear hfz29_4
            try clear hfz29_5
            try clear hfz29_6
            try clear hfz44_0
            try clear hfz44_1
            try clear hfz44_2
            try clear hfz44_3
            try clear hfz44_4
            try clear hfz44_5
            try clear hfz44_6
            try clear hfz45_0
            try clear hfz45_1
            try clear hfz45_2
            try clear hfz45_3
            try clear hfz45_4
            try clear hfz45_5
            try clear hfz45_6
            try clear hfz48_0
            try clear hfz48_1
            try clear hfz48_2
            try clear hfz48_3
            try clear hfz48_4
            try clear hfz48_5
            try clear hfz48_6
            try clear hfz49_0
            try clear hfz49_1
            try clear hfz49_2
            try clear hfz49_3
            try clear hfz49_4
            try clear hfz49_5
            try clear hfz49_6
            try clear hfz56_0
            try clear hfz56_1
            try clear hfz56_2
            try clear hfz56_3
            try clear hfz56_4
            try clear hfz56_5
            try clear hfz56_6
            try clear hfz58_0
            try clear hfz58_1
            try clear hfz58_2
            try clear hfz58_3
            try clear hfz58_4
            try clear hfz58_5
            try clear hfz58_6
            try clear hfz65_0
            try clear hfz65_1
            try clear hfz65_2
            try clear hfz65_3
            try clear hfz65_4
            try clear hfz65_5
            try clear hfz65_6
            try clear hfz67_0
            try clear hfz67_1
            try clear hfz67_2
            try clear hfz67_3
            try clear hfz67_4
            try clear hfz67_5
            try clear hfz67_6
            try clear hfz75_0
            try clear hfz75_1
            try clear hfz75_2
            try clear hfz75_3
            try clear hfz75_4
            try clear hfz75_5
            try clear hfz75_6
            try clear hfz81_0
            try clear hfz81_1
            try clear hfz81_2
            try clear hfz81_3
            try clear hfz81_4
            try clear hfz81_5
            try clear hfz81_6
            try clear hfz83_0
            try clear hfz83_1
            try clear hfz83_2
            try clear hfz83_3
            try clear hfz83_4
            try clear hfz83_5
            try clear hfz83_6
            try clear hfz87_0
            try clear hfz87_1
            try clear hfz87_2
            try clear hfz87_3
            try clear hfz87_4
            try clear hfz87_5
            try clear hfz87_6
            try clear hfz89_0
            try clear hfz89_1
            try clear hfz89_2
            try clear hfz89_3
            try clear hfz89_4
            try clear hfz89_5
            try clear hfz89_6
            try clear p2
            obtain ⟨kq, x84_62, rfl, HA, HJ62, HO_1202006, HO_1216006, HO_1241006, BK1201, BK1215, BK1240, HB⟩ := hcut
            have hl1216006_62 := (Kd.R_reads' HO_1216006.out).1
            rw [hl1216006_62] at HO_1216006
            (try simp only [hl1216006_62])
            (try simp only [hl1216006_62] at BK1201)
            (try simp only [hl1216006_62] at BK1215)
            (try simp only [hl1216006_62] at BK1240)
            (try simp only [hl1216006_62] at HO_1202006)
            (try simp only [hl1216006_62] at HO_1241006)
            cases kq with
            | zero => exact absurd HA.out (by simp [laws_FnExactReadBatch.j2])
            | succ kj62 =>
             have H := HA.out
             clear HA
             simp only [laws_FnExactReadBatch.j2] at H
             by_cases c91 : x84_62 = true
             ·subst c91
              have H1 : (some false) = some r := by rw [if_pos rfl] at H; exact H
              clear H
              have H := H1
              clear H1
              obtain rfl := Option.some.inj H
              go_wp2
              go_ret
              exact ⟨by first | rfl | (simp [e1_, e2_] <;> rfl) | (simp [*, e1_, e2_] <;> rfl) | (simp [e3_, e4_]; done) | (simp [*, e3_, e4_]; done), by repeat (first | (with_reducible first | exact HB.out | apply b1_ | apply b2_ | apply b3_ | refine below_set ?_ GE1201.out | refine below_set ?_ GE1215.out | refine below_set ?_ GE1240.out) | exact HB.out)⟩
             ·replace c91 := Bool.eq_false_iff.mpr c91
              subst c91
              have H1 : ((laws_heldBatch.f kj62 t1205 t1206 t1207 t1208 t1209 t1210 t1225 1).bind fun t1242 => (if t1242 < 0 then (some false) else (if t1242 = t1224 then (some true) else (some false)))) = some r := by rw [if_neg (show ¬ (false = true) by decide)] at H; exact H
              clear H
              have H := H1
              clear H1
              replace H := Option.bind_eq_some_iff.mp H
              obtain ⟨t1242, A920, H⟩ := H
              replace H : (if t1242 < 0 then (some false) else (if t1242 = t1224 then (some true) else (some false))) = some r := H
              have A92 := am_ A920
              clear A920
              by_cases c93 : t1242 < 0
              ·rw [if_pos c93] at H
               have c93b0 : decide (t1242 < 0) = true := decide_eq_true c93
               clear c93
               obtain rfl := Option.some.inj H
               have hnb94 := NB1215_1201.out
               have hnc94 := NB1201_1215.out
               have hnb95 := NB1215_1240.out
               have hnc95 := NB1240_1215.out
               have hcz96_0 : wc.cell? ⟨gb1215, 0, none⟩ = some (.bool t1205) := (blk_cell BK1215.out 0).trans rfl
               have hcz96_1 : wc.cell? ⟨gb1215, 1, none⟩ = some (.int .i64 t1206) := (blk_cell BK1215.out 1).trans rfl
               have hcz96_2 : wc.cell? ⟨gb1215, 2, none⟩ = some (.int .i64 t1207) := (blk_cell BK1215.out 2).trans rfl
               have hcz96_3 : wc.cell? ⟨gb1215, 3, none⟩ = some (.int .i64 t1208) := (blk_cell BK1215.out 3).trans rfl
               have hcz96_4 : wc.cell? ⟨gb1215, 4, none⟩ = some (.int .i64 t1209) := (blk_cell BK1215.out 4).trans rfl
               have hcz96_5 : wc.cell? ⟨gb1215, 5, none⟩ = some (.string t1210) := (blk_cell BK1215.out 5).trans rfl
               have hcz96_6 : wc.cell? ⟨gb1215, 6, none⟩ = some (.slice Ao20 t1225.length co20) := (blk_cell BK1215.out 6).trans rfl
               have hfz96_0 := blk_frozen BK1215.out 0
               have hfz96_1 := blk_frozen BK1215.out 1
               have hfz96_2 := blk_frozen BK1215.out 2
               have hfz96_3 := blk_frozen BK1215.out 3
               have hfz96_4 := blk_frozen BK1215.out 4
               have hfz96_5 := blk_frozen BK1215.out 5
               have hfz96_6 := blk_frozen BK1215.out 6
               go_wp2_with (first | ((with_reducible refine gate_callee (f := 48) rfl ?_); refine goesL_ (some 87) rfl rfl Try.func48 (by kernel_rfl) rfl #[.agg #[.bool t1205, .int .i64 t1206, .int .i64 t1207, .int .i64 t1208, .int .i64 t1209, .string t1210, .slice Ao20 t1225.length co20], .int .i64 1] rfl (by (try simp only [m1_, m2_, m3_]); first | done | rfl | (simp only [d1_, d2_]; rfl)) ?_; (with_reducible refine (laws_heldBatch.calls kj62 t1205 t1206 t1207 t1208 t1209 t1210 _ _ t1225 1 t1242 _ ?side1 ?side2 A92.out).mono ?_); (case side1 => repeat (first | exact (Kd.R_reads' HO_1216006.out).2.2 | (with_reducible refine Kd.C_alloc ?_ _) | (with_reducible refine Kd.C_drewN ?_ _) | (with_reducible refine Kd.C_drew ?_))); (case side2 => exact (Kd.R_reads' HO_1216006.out).2.1); rintro e w97 ⟨rfl, hb⟩; refine ⟨_, rfl, ?_⟩; have n0_ := am_ (Kd.R_below (by (with_reducible repeat (first | apply r1_ | apply r2_ | apply r3_)); exact HO_1202006.out) hb); have n1_ := am_ (Kd.R_below (by (with_reducible repeat (first | apply r1_ | apply r2_ | apply r3_)); exact HO_1216006.out) hb); have n2_ := am_ (Kd.R_below (by (with_reducible repeat (first | apply r1_ | apply r2_ | apply r3_)); exact HO_1241006.out) hb); have n3_ := am_ (blk_below (g := gb1201) (o := .cells #[.bool t1191, .int .i64 t1192, .int .i64 t1193, .int .i64 t1194, .int .i64 t1195, .string t1196, .slice Ao13 t1197.length co13] 67 (0, 0)) (by (with_reducible repeat (first | apply k1_ | apply k2_ | apply k3_)); exact BK1201.out) hb); have n4_ := am_ (blk_below (g := gb1215) (o := .cells #[.bool t1205, .int .i64 t1206, .int .i64 t1207, .int .i64 t1208, .int .i64 t1209, .string t1210, .slice Ao20 t1225.length co20] 67 (0, 0)) (by (with_reducible repeat (first | apply k1_ | apply k2_ | apply k3_)); exact BK1215.out) hb); have n5_ := am_ (blk_below (g := gb1240) (o := .cells #[.bool t1230, .int .i64 t1231, .int .i64 t1232, .int .i64 t1233, .int .i64 t1234, .string t1235, .slice Ao76 t1236.length co76] 67 (0, 0)) (by (with_reducible repeat (first | apply k1_ | apply k2_ | apply k3_)); exact BK1240.out) hb); have n6_ := am_ (below_step (by repeat (first | (with_reducible first | exact HB.out | apply b1_ | apply b2_ | apply b3_ | refine below_set ?_ GE1201.out | refine below_set ?_ GE1215.out | refine below_set ?_ GE1240.out) | exact HB.out)) hb); clear HO_1202006; clear HO_1216006; clear HO_1241006; clear BK1201; clear BK1215; clear BK1240; clear HB; have HO_1202006 := n0_; have HO_1216006 := n1_; have HO_1241006 := n2_; have BK1201 := n3_; have BK1215 := n4_; have BK1240 := n5_; have HB := n6_; clear n0_ n1_ n2_ n3_ n4_ n5_ n6_; (try clear hb); (try clear hb2); (try clear hk); (try clear hi)))
               go_ret
               exact ⟨by first | rfl | (simp [e1_, e2_] <;> rfl) | (simp [*, e1_, e2_] <;> rfl) | (simp [e3_, e4_]; done) | (simp [*, e3_, e4_]; done), by repeat (first | (with_reducible first | exact HB.out | apply b1_ | apply b2_ | apply b3_ | refine below_set ?_ GE1201.out | refine below_set ?_ GE1215.out | refine below_set ?_ GE1240.out) | exact HB.out)⟩
              ·rw [if_neg c93] at H
               have c93b0 : decide (t1242 < 0) = false := decide_eq_false c93
               clear c93
               by_cases c98 : t1242 = t1224
               ·rw [if_pos c98] at H
                have c98b0 : (t1242 == t1224) = true := beq_iff_eq.mpr c98
                have c98b1 : (t1242 != t1224) = false := bne_eq_false_iff_eq.mpr c98
                clear c98
                obtain rfl := Option.some.inj H
                have hnb99 := NB1215_1201.out
                have hnc99 := NB1201_1215.out
                have hnb100 := NB1215_1240.out
                have hnc100 := NB1240_1215.out
                have hcz101_0 : wc.cell? ⟨gb1215, 0, none⟩ = some (.bool t1205) := (blk_cell BK1215.out 0).trans rfl
                have hcz101_1 : wc.cell? ⟨gb1215, 1, none⟩ = some (.int .i64 t1206) := (blk_cell BK1215.out 1).trans rfl
                have hcz101_2 : wc.cell? ⟨gb1215, 2, none⟩ = some (.int .i64 t1207) := (blk_cell BK1215.out 2).trans rfl
                have hcz101_3 : wc.cell? ⟨gb1215, 3, none⟩ = some (.int .i64 t1208) := (blk_cell BK1215.out 3).trans rfl
                have hcz101_4 : wc.cell? ⟨gb1215, 4, none⟩ = some (.int .i64 t1209) := (blk_cell BK1215.out 4).trans rfl
                have hcz101_5 : wc.cell? ⟨gb1215, 5, none⟩ = some (.string t1210) := (blk_cell BK1215.out 5).trans rfl
                have hcz101_6 : wc.cell? ⟨gb1215, 6, none⟩ = some (.slice Ao20 t1225.length co20) := (blk_cell BK1215.out 6).trans rfl
                have hfz101_0 := blk_frozen BK1215.out 0
                have hfz101_1 := blk_frozen BK1215.out 1
                have hfz101_2 := blk_frozen BK1215.out 2
                have hfz101_3 := blk_frozen BK1215.out 3
                have hfz101_4 := blk_frozen BK1215.out 4
                have hfz101_5 := blk_frozen BK1215.out 5
                have hfz101_6 := blk_frozen BK1215.out 6
                go_wp2_with (first | ((with_reducible refine gate_callee (f := 48) rfl ?_); refine goesL_ (some 87) rfl rfl Try.func48 (by kernel_rfl) rfl #[.agg #[.bool t1205, .int .i64 t1206, .int .i64 t1207, .int .i64 t1208, .int .i64 t1209, .string t1210, .slice Ao20 t1225.length co20], .int .i64 1] rfl (by (try simp only [m1_, m2_, m3_]); first | done | rfl | (simp only [d1_, d2_]; rfl)) ?_; (with_reducible refine (laws_heldBatch.calls kj62 t1205 t1206 t1207 t1208 t1209 t1210 _ _ t1225 1 t1242 _ ?side1 ?side2 A92.out).mono ?_); (case side1 => repeat (first | exact (Kd.R_reads' HO_1216006.out).2.2 | (with_reducible refine Kd.C_alloc ?_ _) | (with_reducible refine Kd.C_drewN ?_ _) | (with_reducible refine Kd.C_drew ?_))); (case side2 => exact (Kd.R_reads' HO_1216006.out).2.1); rintro e w102 ⟨rfl, hb⟩; refine ⟨_, rfl, ?_⟩; have n0_ := am_ (Kd.R_below (by (with_reducible repeat (first | apply r1_ | apply r2_ | apply r3_)); exact HO_1202006.out) hb); have n1_ := am_ (Kd.R_below (by (with_reducible repeat (first | apply r1_ | apply r2_ | apply r3_)); exact HO_1216006.out) hb); have n2_ := am_ (Kd.R_below (by (with_reducible repeat (first | apply r1_ | apply r2_ | apply r3_)); exact HO_1241006.out) hb); have n3_ := am_ (blk_below (g := gb1201) (o := .cells #[.bool t1191, .int .i64 t1192, .int .i64 t1193, .int .i64 t1194, .int .i64 t1195, .string t1196, .slice Ao13 t1197.length co13] 67 (0, 0)) (by (with_reducible repeat (first | apply k1_ | apply k2_ | apply k3_)); exact BK1201.out) hb); have n4_ := am_ (blk_below (g := gb1215) (o := .cells #[.bool t1205, .int .i64 t1206, .int .i64 t1207, .int .i64 t1208, .int .i64 t1209, .string t1210, .slice Ao20 t1225.length co20] 67 (0, 0)) (by (with_reducible repeat (first | apply k1_ | apply k2_ | apply k3_)); exact BK1215.out) hb); have n5_ := am_ (blk_below (g := gb1240) (o := .cells #[.bool t1230, .int .i64 t1231, .int .i64 t1232, .int .i64 t1233, .int .i64 t1234, .string t1235, .slice Ao76 t1236.length co76] 67 (0, 0)) (by (with_reducible repeat (first | apply k1_ | apply k2_ | apply k3_)); exact BK1240.out) hb); have n6_ := am_ (below_step (by repeat (first | (with_reducible first | exact HB.out | apply b1_ | apply b2_ | apply b3_ | refine below_set ?_ GE1201.out | refine below_set ?_ GE1215.out | refine below_set ?_ GE1240.out) | exact HB.out)) hb); clear HO_1202006; clear HO_1216006; clear HO_1241006; clear BK1201; clear BK1215; clear BK1240; clear HB; have HO_1202006 := n0_; have HO_1216006 := n1_; have HO_1241006 := n2_; have BK1201 := n3_; have BK1215 := n4_; have BK1240 := n5_; have HB := n6_; clear n0_ n1_ n2_ n3_ n4_ n5_ n6_; (try clear hb); (try clear hb2); (try clear hk); (try clear hi)))
                go_ret
                exact ⟨by first | rfl | (simp [e1_, e2_] <;> rfl) | (simp [*, e1_, e2_] <;> rfl) | (simp [e3_, e4_]; done) | (simp [*, e3_, e4_]; done), by repeat (first | (with_reducible first | exact HB.out | apply b1_ | apply b2_ | apply b3_ | refine below_set ?_ GE1201.out | refine below_set ?_ GE1215.out | refine below_set ?_ GE1240.out) | exact HB.out)⟩
               ·rw [if_neg c98] at H
                have c98b0 : (t1242 == t1224) = false := beq_eq_false_iff_ne.mpr c98
                have c98b1 : (t1242 != t1224) = true := bne_iff_ne.mpr c98
                obtain rfl := Option.some.inj H
                have hnb103 := NB1215_1201.out
                have hnc103 := NB1201_1215.out
                have hnb104 := NB1215_1240.out
                have hnc104 := NB1240_1215.out
                have hcz105_0 : wc.cell? ⟨gb1215, 0, none⟩ = some (.bool t1205) := (blk_cell BK1215.out 0).trans rfl
                have hcz105_1 : wc.cell? ⟨gb1215, 1, none⟩ = some (.int .i64 t1206) := (blk_cell BK1215.out 1).trans rfl
                have hcz105_2 : wc.cell? ⟨gb1215, 2, none⟩ = some (.int .i64 t1207) := (blk_cell BK1215.out 2).trans rfl
                have hcz105_3 : wc.cell? ⟨gb1215, 3, none⟩ = some (.int .i64 t1208) := (blk_cell BK1215.out 3).trans rfl
                have hcz105_4 : wc.cell? ⟨gb1215, 4, none⟩ = some (.int .i64 t1209) := (blk_cell BK1215.out 4).trans rfl
                have hcz105_5 : wc.cell? ⟨gb1215, 5, none⟩ = some (.string t1210) := (blk_cell BK1215.out 5).trans rfl
                have hcz105_6 : wc.cell? ⟨gb1215, 6, none⟩ = some (.slice Ao20 t1225.length co20) := (blk_cell BK1215.out 6).trans rfl
                have hfz105_0 := blk_frozen BK1215.out 0
                have hfz105_1 := blk_frozen BK1215.out 1
                have hfz105_2 := blk_frozen BK1215.out 2
                have hfz105_3 := blk_frozen BK1215.out 3
                have hfz105_4 := blk_frozen BK1215.out 4
                have hfz105_5 := blk_frozen BK1215.out 5
                have hfz105_6 := blk_frozen BK1215.out 6
                go_wp2_with (first | ((with_reducible refine gate_callee (f := 48) rfl ?_); refine goesL_ (some 87) rfl rfl Try.func48 (by kernel_rfl) rfl #[.agg #[.bool t1205, .int .i64 t1206, .int .i64 t1207, .int .i64 t1208, .int .i64 t1209, .string t1210, .slice Ao20 t1225.length co20], .int .i64 1] rfl (by (try simp only [m1_, m2_, m3_]); first | done | rfl | (simp only [d1_, d2_]; rfl)) ?_; (with_reducible refine (laws_heldBatch.calls kj62 t1205 t1206 t1207 t1208 t1209 t1210 _ _ t1225 1 t1242 _ ?side1 ?side2 A92.out).mono ?_); (case side1 => repeat (first | exact (Kd.R_reads' HO_1216006.out).2.2 | (with_reducible refine Kd.C_alloc ?_ _) | (with_reducible refine Kd.C_drewN ?_ _) | (with_reducible refine Kd.C_drew ?_))); (case side2 => exact (Kd.R_reads' HO_1216006.out).2.1); rintro e w106 ⟨rfl, hb⟩; refine ⟨_, rfl, ?_⟩; have n0_ := am_ (Kd.R_below (by (with_reducible repeat (first | apply r1_ | apply r2_ | apply r3_)); exact HO_1202006.out) hb); have n1_ := am_ (Kd.R_below (by (with_reducible repeat (first | apply r1_ | apply r2_ | apply r3_)); exact HO_1216006.out) hb); have n2_ := am_ (Kd.R_below (by (with_reducible repeat (first | apply r1_ | apply r2_ | apply r3_)); exact HO_1241006.out) hb); have n3_ := am_ (blk_below (g := gb1201) (o := .cells #[.bool t1191, .int .i64 t1192, .int .i64 t1193, .int .i64 t1194, .int .i64 t1195, .string t1196, .slice Ao13 t1197.length co13] 67 (0, 0)) (by (with_reducible repeat (first | apply k1_ | apply k2_ | apply k3_)); exact BK1201.out) hb); have n4_ := am_ (blk_below (g := gb1215) (o := .cells #[.bool t1205, .int .i64 t1206, .int .i64 t1207, .int .i64 t1208, .int .i64 t1209, .string t1210, .slice Ao20 t1225.length co20] 67 (0, 0)) (by (with_reducible repeat (first | apply k1_ | apply k2_ | apply k3_)); exact BK1215.out) hb); have n5_ := am_ (blk_below (g := gb1240) (o := .cells #[.bool t1230, .int .i64 t1231, .int .i64 t1232, .int .i64 t1233, .int .i64 t1234, .string t1235, .slice Ao76 t1236.length co76] 67 (0, 0)) (by (with_reducible repeat (first | apply k1_ | apply k2_ | apply k3_)); exact BK1240.out) hb); have n6_ := am_ (below_step (by repeat (first | (with_reducible first | exact HB.out | apply b1_ | apply b2_ | apply b3_ | refine below_set ?_ GE1201.out | refine below_set ?_ GE1215.out | refine below_set ?_ GE1240.out) | exact HB.out)) hb); clear HO_1202006; clear HO_1216006; clear HO_1241006; clear BK1201; clear BK1215; clear BK1240; clear HB; have HO_1202006 := n0_; have HO_1216006 := n1_; have HO_1241006 := n2_; have BK1201 := n3_; have BK1215 := n4_; have BK1240 := n5_; have HB := n6_; clear n0_ n1_ n2_ n3_ n4_ n5_ n6_; (try clear hb); (try clear hb2); (try clear hk); (try clear hi)))
                go_ret
                exact ⟨by first | rfl | (simp [e1_, e2_] <;> rfl) | (simp [*, e1_, e2_] <;> rfl) | (simp [e3_, e4_]; done) | (simp [*, e3_, e4_]; done), by repeat (first | (with_reducible first | exact HB.out | apply b1_ | apply b2_ | apply b3_ | refine below_set ?_ GE1201.out | refine below_set ?_ GE1215.out | refine below_set ?_ GE1240.out) | exact HB.out)⟩
          ·rw [if_neg c60] at H
           have c60b0 : (t1226 == t1224) = false := beq_eq_false_iff_ne.mpr c60
           have c60b1 : (t1226 != t1224) = true := bne_iff_ne.mpr c60
           obtain rfl := Option.some.inj H
           have hnb107 := NB1215_1201.out
           have hnc107 := NB1201_1215.out
           have hcz108_0 : wc.cell? ⟨gb1215, 0, none⟩ = some (.bool t1205) := (blk_cell BK1215.out 0).trans rfl
           have hcz108_1 : wc.cell? ⟨gb1215, 1, none⟩ = some (.int .i64 t1206) := (blk_cell BK1215.out 1).trans rfl
           have hcz108_2 : wc.cell? ⟨gb1215, 2, none⟩ = some (.int .i64 t1207) := (blk_cell BK1215.out 2).trans rfl
           have hcz108_3 : wc.cell? ⟨gb1215, 3, none⟩ = some (.int .i64 t1208) := (blk_cell BK1215.out 3).trans rfl
           have hcz108_4 : wc.cell? ⟨gb1215, 4, none⟩ = some (.int .i64 t1209) := (blk_cell BK1215.out 4).trans rfl
           have hcz108_5 : wc.cell? ⟨gb1215, 5, none⟩ = some (.string t1210) := (blk_cell BK1215.out 5).trans rfl
           have hcz108_6 : wc.cell? ⟨gb1215, 6, none⟩ = some (.slice Ao20 t1211.length co20) := (blk_cell BK1215.out 6).trans rfl
           have hfz108_0 := blk_frozen BK1215.out 0
           have hfz108_1 := blk_frozen BK1215.out 1
           have hfz108_2 := blk_frozen BK1215.out 2
           have hfz108_3 := blk_frozen BK1215.out 3
           have hfz108_4 := blk_frozen BK1215.out 4
           have hfz108_5 := blk_frozen BK1215.out 5
           have hfz108_6 := blk_frozen BK1215.out 6
           go_wp2_with (first | ((with_reducible refine gate_callee (f := 47) rfl ?_); refine goesL_ (some 61) rfl rfl Try.func47 (by kernel_rfl) rfl #[.agg #[.bool t1205, .int .i64 t1206, .int .i64 t1207, .int .i64 t1208, .int .i64 t1209, .string t1210, .slice Ao20 t1211.length co20], .int .i64 1] rfl (by (try simp only [m1_, m2_, m3_]); first | done | rfl | (simp only [d1_, d2_]; rfl)) ?_; (with_reducible refine (laws_markBatch.calls kj35 t1205 t1206 t1207 t1208 t1209 t1210 (fun k_ => some k_ = (.slice Ao20 t1211.length co20 : Value).ownBlock) (.slice Ao20 t1211.length co20) t1211 1 t1224 t1225 w _ ?side1 ?side2 A52.out).mono ?_); (case side1 => repeat (first | (with_reducible first | exact HB.out | apply b1_ | apply b2_ | apply b3_ | refine below_set ?_ GE1201.out | refine below_set ?_ GE1215.out) | exact HB.out)); (case side2 => exact Kd.R_tight rfl HO_1216006.out); rintro e w109 ⟨rfl, hy0, hb, hkp⟩; refine ⟨_, rfl, ?_⟩; have n0_ := am_ (Kd.R_mono (ok' := fun k_ => some k_ ≠ (.slice Ao20 t1211.length co20 : Value).ownBlock) (Kd.R_keptB (HO_1202006.out) hkp (fun k_ hk_ hs_ => (hk_) hs_)) (fun k_ hk_ => hk_.1)); have n1_ := am_ (Kd.R_reok rfl hy0 (fun k_ e_ => HO_1216006.out.1 k_ e_)); have n2_ := am_ (blk_kept (by (with_reducible repeat (first | apply k1_ | apply k2_ | apply k3_)); exact BK1201.out) hkp (fun hs_ => (fun e_ => (Kd.R_ne HO_1216006.out BK1201.out (by decide)) e_) hs_)); have n3_ := am_ (blk_kept (by (with_reducible repeat (first | apply k1_ | apply k2_ | apply k3_)); exact BK1215.out) hkp (fun hs_ => (fun e_ => (Kd.R_ne HO_1216006.out BK1215.out (by decide)) e_) hs_)); have n4_ := am_ (hb); clear HO_1202006; clear HO_1216006; clear BK1201; clear BK1215; clear HB; have HO_1202006 := n0_; have HO_1216006 := n1_; have BK1201 := n2_; have BK1215 := n3_; have HB := n4_; clear n0_ n1_ n2_ n3_ n4_; (try clear hb); (try clear hkp); (try clear hy0); have hcz110_0 : w109.cell? ⟨gb1215, 0, none⟩ = some (.bool t1205) := (blk_cell BK1215.out 0).trans rfl; have hcz110_1 : w109.cell? ⟨gb1215, 1, none⟩ = some (.int .i64 t1206) := (blk_cell BK1215.out 1).trans rfl; have hcz110_2 : w109.cell? ⟨gb1215, 2, none⟩ = some (.int .i64 t1207) := (blk_cell BK1215.out 2).trans rfl; have hcz110_3 : w109.cell? ⟨gb1215, 3, none⟩ = some (.int .i64 t1208) := (blk_cell BK1215.out 3).trans rfl; have hcz110_4 : w109.cell? ⟨gb1215, 4, none⟩ = some (.int .i64 t1209) := (blk_cell BK1215.out 4).trans rfl; have hcz110_5 : w109.cell? ⟨gb1215, 5, none⟩ = some (.string t1210) := (blk_cell BK1215.out 5).trans rfl; have hcz110_6 : w109.cell? ⟨gb1215, 6, none⟩ = some (.slice Ao20 t1211.length co20) := (blk_cell BK1215.out 6).trans rfl; have hfz110_0 := blk_frozen BK1215.out 0; have hfz110_1 := blk_frozen BK1215.out 1; have hfz110_2 := blk_frozen BK1215.out 2; have hfz110_3 := blk_frozen BK1215.out 3; have hfz110_4 := blk_frozen BK1215.out 4; have hfz110_5 := blk_frozen BK1215.out 5; have hfz110_6 := blk_frozen BK1215.out 6) | ((with_reducible refine gate_callee (f := 48) rfl ?_); refine goesL_ (some 64) rfl rfl Try.func48 (by kernel_rfl) rfl #[.agg #[.bool t1205, .int .i64 t1206, .int .i64 t1207, .int .i64 t1208, .int .i64 t1209, .string t1210, .slice Ao20 t1225.length co20], .int .i64 1] rfl (by (try simp only [m1_, m2_, m3_]); first | done | (rw [show t1225.length = t1211.length from (Kd.R_reads' HO_1216006.out).1.symm] <;> rfl) | rfl | (simp only [d1_, d2_]; rfl)) ?_; (with_reducible refine (laws_heldBatch.calls kj35 t1205 t1206 t1207 t1208 t1209 t1210 _ _ t1225 1 t1226 _ ?side1 ?side2 A53.out).mono ?_); (case side1 => repeat (first | exact (Kd.R_reads' HO_1216006.out).2.2 | (with_reducible refine Kd.C_alloc ?_ _) | (with_reducible refine Kd.C_drewN ?_ _) | (with_reducible refine Kd.C_drew ?_))); (case side2 => rw [show t1225.length = t1211.length from (Kd.R_reads' HO_1216006.out).1.symm]; exact (Kd.R_reads' HO_1216006.out).2.1); rintro e w111 ⟨rfl, hb⟩; refine ⟨_, rfl, ?_⟩; have n0_ := am_ (Kd.R_below (by (with_reducible repeat (first | apply r1_ | apply r2_ | apply r3_)); exact HO_1202006.out) hb); have n1_ := am_ (Kd.R_below (by (with_reducible repeat (first | apply r1_ | apply r2_ | apply r3_)); exact HO_1216006.out) hb); have n2_ := am_ (blk_below (g := gb1201) (o := .cells #[.bool t1191, .int .i64 t1192, .int .i64 t1193, .int .i64 t1194, .int .i64 t1195, .string t1196, .slice Ao13 t1197.length co13] 67 (0, 0)) (by (with_reducible repeat (first | apply k1_ | apply k2_ | apply k3_)); exact BK1201.out) hb); have n3_ := am_ (blk_below (g := gb1215) (o := .cells #[.bool t1205, .int .i64 t1206, .int .i64 t1207, .int .i64 t1208, .int .i64 t1209, .string t1210, .slice Ao20 t1211.length co20] 67 (0, 0)) (by (with_reducible repeat (first | apply k1_ | apply k2_ | apply k3_)); exact BK1215.out) hb); have n4_ := am_ (below_step (by repeat (first | (with_reducible first | exact HB.out | apply b1_ | apply b2_ | apply b3_ | refine below_set ?_ GE1201.out | refine below_set ?_ GE1215.out) | exact HB.out)) hb); clear HO_1202006; clear HO_1216006; clear BK1201; clear BK1215; clear HB; have HO_1202006 := n0_; have HO_1216006 := n1_; have BK1201 := n2_; have BK1215 := n3_; have HB := n4_; clear n0_ n1_ n2_ n3_ n4_; (try clear hb); (try clear hb2); (try clear hk); (try clear hi)))
           go_ret
           exact ⟨by first | rfl | (simp [e1_, e2_] <;> rfl) | (simp [*, e1_, e2_] <;> rfl) | (simp [e3_, e4_]; done) | (simp [*, e3_, e4_]; done), by repeat (first | (with_reducible first | exact HB.out | apply b1_ | apply b2_ | apply b3_ | refine below_set ?_ GE1201.out | refine below_set ?_ GE1215.out) | exact HB.out)⟩
     ·replace c34 := Bool.eq_false_iff.mpr c34
      subst c34
      have H1 : (some false) = some r := by rw [if_neg (show ¬ (false = true) by decide)] at H; exact H
      clear H
      have H := H1
      clear H1
      obtain rfl := Option.some.inj H
      go_wp2_with (first | ((with_reducible refine gate_callee (f := 44) rfl ?_); refine goesL_ (some 40) rfl rfl Try.func44 (by kernel_rfl) rfl #[.slice A0 l0.length c0] rfl (by (try simp only [m1_, m2_, m3_]); first | done | rfl | (simp only [d1_, d2_]; rfl)) ?_; (with_reducible refine (laws_toByteS.calls kj6 _ _ l0 t1217 _ ?side1 ?side2 A32.out).mono ?_); (case side1 => repeat (first | exact (Kd.C_below HR0.out HB.out) | (with_reducible refine Kd.C_alloc ?_ _) | (with_reducible refine Kd.C_drewN ?_ _) | (with_reducible refine Kd.C_drew ?_))); (case side2 => exact HC0.out); rintro e w112 ⟨v1218, rfl, ho0, hb⟩; refine ⟨_, rfl, ?_⟩; have n0_ := am_ (Kd.R_elder' (by (with_reducible repeat (first | apply r1_ | apply r2_ | apply r3_)); exact HO_5.out) (Kd.R_base ho0) hb); have n1_ := am_ (Kd.R_below (by (with_reducible repeat (first | apply r1_ | apply r2_ | apply r3_)); exact HO_1202006.out) hb); have n2_ := am_ (Kd.R_below (by (with_reducible repeat (first | apply r1_ | apply r2_ | apply r3_)); exact HO_1216006.out) hb); have n3_ := am_ (Kd.R_lower (Kd.R_new' ho0 (Kd.R_lt (by (with_reducible repeat (first | apply r1_ | apply r2_ | apply r3_)); exact HO_5.out))) (below_size (by repeat (first | (with_reducible first | exact HB.out | apply b1_ | apply b2_ | apply b3_ | refine below_set ?_ GE1201.out | refine below_set ?_ GE1215.out) | exact HB.out)))); have n4_ := am_ (blk_below (g := gb1201) (o := .cells #[.bool t1191, .int .i64 t1192, .int .i64 t1193, .int .i64 t1194, .int .i64 t1195, .string t1196, .slice Ao13 t1197.length co13] 67 (0, 0)) (by (with_reducible repeat (first | apply k1_ | apply k2_ | apply k3_)); exact BK1201.out) hb); have n5_ := am_ (blk_below (g := gb1215) (o := .cells #[.bool t1205, .int .i64 t1206, .int .i64 t1207, .int .i64 t1208, .int .i64 t1209, .string t1210, .slice Ao20 t1211.length co20] 67 (0, 0)) (by (with_reducible repeat (first | apply k1_ | apply k2_ | apply k3_)); exact BK1215.out) hb); have n6_ := am_ (below_step (by repeat (first | (with_reducible first | exact HB.out | apply b1_ | apply b2_ | apply b3_ | refine below_set ?_ GE1201.out | refine below_set ?_ GE1215.out) | exact HB.out)) hb); clear HO_5; clear HO_1202006; clear HO_1216006; clear BK1201; clear BK1215; clear HB; have HO_5 := n0_; have HO_1202006 := n1_; have HO_1216006 := n2_; have HO1219 := n3_; have BK1201 := n4_; have BK1215 := n5_; have HB := n6_; clear n0_ n1_ n2_ n3_ n4_ n5_ n6_; (try clear hb); (try clear hb2); (try clear hk); (try clear hi); (try clear ho0); obtain ⟨Ao113, co113, eo113⟩ := Kd.R_slice HO1219.out; subst eo113) | ((with_reducible refine gate_callee (f := 15) rfl ?_); refine goesL_ (some 41) rfl rfl Try.func15 (by kernel_rfl) rfl #[.slice Ao15 t1202.length co15, .slice Ao113 t1217.length co113] rfl (by (try simp only [m1_, m2_, m3_]); first | done | rfl | (simp only [d1_, d2_]; rfl)) ?_; (with_reducible refine (laws_eqByteS.calls kj6 _ _ t1202 _ _ t1217 false _ ?side1 ?side2 ?side3 ?side4 A33.out).mono ?_); (case side1 => repeat (first | exact (Kd.R_reads' HO_5.out).2.2 | (with_reducible refine Kd.C_alloc ?_ _) | (with_reducible refine Kd.C_drewN ?_ _) | (with_reducible refine Kd.C_drew ?_))); (case side2 => exact (Kd.R_reads' HO_5.out).2.1); (case side3 => repeat (first | exact (Kd.R_reads' HO1219.out).2.2 | (with_reducible refine Kd.C_alloc ?_ _) | (with_reducible refine Kd.C_drewN ?_ _) | (with_reducible refine Kd.C_drew ?_))); (case side4 => exact (Kd.R_reads' HO1219.out).2.1); rintro e w' ⟨rfl, ⟨nd, rfl⟩⟩; refine ⟨_, rfl, ?_⟩))
      go_ret
      exact ⟨by first | rfl | (simp [e1_, e2_] <;> rfl) | (simp [*, e1_, e2_] <;> rfl) | (simp [e3_, e4_]; done) | (simp [*, e3_, e4_]; done), by repeat (first | (with_reducible first | exact HB.out | apply b1_ | apply b2_ | apply b3_ | refine below_set ?_ GE1201.out | refine below_set ?_ GE1215.out) | exact HB.out)⟩
end Go.Proofs.Ytofkobbiomhblaa.A
end
