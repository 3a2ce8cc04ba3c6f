/- A part of the proof that FnExactMakeReply returns true at every input: plain functions, contracts and lemmas. No conditions. -/
import Derived.Test.YtdpdbegglkdgnaaDoorQMakeReplya
import Derived.Lib.SlBy
import Derived.Lib.Walk
import Derived.StillTailTactics
set_option linter.unusedVariables false
set_option linter.unusedSimpArgs false
set_option linter.unusedSectionVars false
section
namespace Go.Proofs.YtdpdbegglkdgnaaDoor.A
open Go.RowKit Go.Proofs.YtdpdbegglkdgnaaDoorW.PrintWords Go.Proofs.YtdpdbegglkdgnaaDoorW.PrintLast Go.Proofs.YtdpdbegglkdgnaaDoorW.PrintMore
abbrev k1_ := @blk_drewN
abbrev k2_ := @blk_drew
abbrev k3_ := @blk_alloc
abbrev b1_ := @below_alloc
abbrev b2_ := @pw_below_drewN
abbrev b3_ := @below_drew1
abbrev r1_ := @Kd.R_alloc
abbrev r2_ := @Kd.R_drewN
abbrev r3_ := @Kd.R_drew
theorem d1_ {α : Type _} (l : List α) (i : Nat) : (l.drop i).length = l.length - i := List.length_drop
theorem d2_ {α : Type _} (l : List α) (i : Nat) : (l.take i).length = min i l.length := List.length_take
theorem o1_ {p : Prop} [Decidable p] (h : decide p = true) : p := of_decide_eq_true h
theorem e3_ (l : List UInt8) : (l == []) = l.isEmpty := mp_beq_nil l
theorem e4_ (l : List UInt8) : (l != []) = !l.isEmpty := mp_bne_nil l
theorem am_ {p : Prop} (h : p) : Aside0 p := ⟨h⟩
theorem p1_ {α : Type _} (l : List α) (i : Nat) (a : α) : l.toArray.setIfInBounds i a = (l.set i a).toArray := List.setIfInBounds_toArray ..
theorem p2_ {α : Type _} (x : α) (xs : List α) (a : α) : (x :: xs).set 0 a = a :: xs := List.set_cons_zero
theorem p3_ {α : Type _} (x : α) (xs : List α) (i : Nat) (a : α) : (x :: xs).set (i + 1) a = x :: xs.set i a := List.set_cons_succ
theorem m1_ {α β : Type _} (f : α → β) (l : List α) : l.toArray.map f = (l.map f).toArray := List.map_toArray
theorem m2_ {α β : Type _} (f : α → β) (a : α) (l : List α) : (a :: l).map f = f a :: l.map f := List.map_cons
theorem m3_ {α β : Type _} (f : α → β) : ([] : List α).map f = [] := List.map_nil
attribute [local go_sem] max2_int min2_int max_two min_two max_three min_three max_four min_four
def errW : Option Int → Value
  | none => .nilIface
  | some c => .iface 0 (.int .i64 c)
theorem e1_ : errW none = .nilIface := rfl
theorem e2_ (c : Int) : errW (some c) = .iface 0 (.int .i64 c) := rfl
theorem info5 : (Tryd.prog.info? 5).map (fun i => (i.zero, i.size, i.bytes)) = some (some (.int .u8 0), 1, 1) := by kernel_rfl
theorem info117 : (Tryd.prog.info? 117).map (fun i => (i.zero, i.size, i.bytes)) = some (some (.int .u32 0), 1, 4) := by kernel_rfl
def k28 : Kd S28 := Kd.iso (Kd.pair (Kd.int .i64) (Kd.pair (Kd.int .i64) (Kd.pair (Kd.int .i64) (Kd.int .i64)))) (fun x : S28 => (x.f0, x.f1, x.f2, x.f3))
theorem k28_open {w : World} {x : S28} {cs : List Value} (h : k28.K w x cs) : cs = [.int .i64 x.f0, .int .i64 x.f1, .int .i64 x.f2, .int .i64 x.f3] := by
  obtain ⟨_, _, rfl, rfl, ⟨_, _, rfl, rfl, ⟨_, _, rfl, rfl, rfl⟩⟩⟩ := h
  exact rfl
end Go.Proofs.YtdpdbegglkdgnaaDoor.A
end

section
namespace Go.Proofs.YtdpdbegglkdgnaaDoor.A
open Go.RowKit Go.Proofs.YtdpdbegglkdgnaaDoorW.PrintWords Go.Proofs.YtdpdbegglkdgnaaDoorW.PrintLast Go.Proofs.YtdpdbegglkdgnaaDoorW.PrintMore
attribute [local go_sem] max2_int min2_int max_two min_two max_three min_three max_four min_four
set_option maxHeartbeats 8000000 in
set_option maxRecDepth 100000 in
theorem impl_within.calls (a0 : Int) (a1 : Int) (a2 : Int) (r : Bool) (w : World) (h : impl_within.f a0 a1 a2 = some r) :
  Calls Tryd.prog 47 #[.int .i64 a0, .int .i64 a1, .int .i64 a2] w fun e w' => e = .returned (.bool r) ∧ Drawn0 w w' := by
 have H : (if a0 ≥ a1 then (some (decide (a0 ≤ a2))) else (some false)) = some r := h
 clear h
 by_cases c4 : a0 ≥ a1
 ·rw [if_pos c4] at H
  have c4b0 : decide (a1 ≤ a0) = true := decide_eq_true c4
  clear c4
  obtain rfl := Option.some.inj H
  go_enter Tryd.func47, Tryd.ntmps47
  go_wp2
  go_ret
  exact ⟨by first | rfl | (simp; done) | (simp [*]; done), by repeat (first | exact Drawn0.refl _ | apply Drawn0.step)⟩
 ·rw [if_neg c4] at H
  have c4b0 : decide (a1 ≤ a0) = false := decide_eq_false c4
  clear c4
  obtain rfl := Option.some.inj H
  go_enter Tryd.func47, Tryd.ntmps47
  go_wp2
  go_ret
  exact ⟨by first | rfl | (simp; done) | (simp [*]; done), by repeat (first | exact Drawn0.refl _ | apply Drawn0.step)⟩
set_option maxHeartbeats 8000000 in
set_option maxRecDepth 100000 in
theorem impl_isAnswer.calls (a0_0 : Int) (a0_1 : Int) (a0_2 : Int) (a0_3 : Int) (r : Bool) (w : World) (h : impl_isAnswer.f a0_0 a0_1 a0_2 a0_3 = some r) :
  Calls Tryd.prog 94 #[.agg #[.int .i64 a0_0, .int .i64 a0_1, .int .i64 a0_2, .int .i64 a0_3]] w fun e w' => e = .returned (.bool r) ∧ Below w.heap.size w w' := by
 have hu33 := Tryd.underlying33
 have HB := am_ (Below.refl w.heap.size w)
 have H : ((impl_within.f a0_0 1 8).bind fun t331 => (if t331 = true then ((impl_within.f a0_1 0 1000000).bind fun t332 => (if t332 = true then ((impl_within.f a0_2 (-1) 255).bind fun t333 => (if t333 = true then ((impl_within.f a0_3 0 2000000000).bind fun t334 => (some t334)) else (some false))) else (some false))) else (some false))) = some r := h
 clear h
 replace H := Option.bind_eq_some_iff.mp H
 obtain ⟨t331, A20, H⟩ := H
 replace H : (if t331 = true then ((impl_within.f a0_1 0 1000000).bind fun t332 => (if t332 = true then ((impl_within.f a0_2 (-1) 255).bind fun t333 => (if t333 = true then ((impl_within.f a0_3 0 2000000000).bind fun t334 => (some t334)) else (some false))) else (some false))) else (some false)) = some r := H
 have A2 := am_ A20
 clear A20
 by_cases c3 : t331 = true
 ·subst c3
  have H1 : ((impl_within.f a0_1 0 1000000).bind fun t332 => (if t332 = true then ((impl_within.f a0_2 (-1) 255).bind fun t333 => (if t333 = true then ((impl_within.f a0_3 0 2000000000).bind fun t334 => (some t334)) else (some false))) else (some false))) = some r := by rw [if_pos rfl] at H; exact H
  clear H
  have H := H1
  clear H1
  replace H := Option.bind_eq_some_iff.mp H
  obtain ⟨t332, A40, H⟩ := H
  replace H : (if t332 = true then ((impl_within.f a0_2 (-1) 255).bind fun t333 => (if t333 = true then ((impl_within.f a0_3 0 2000000000).bind fun t334 => (some t334)) else (some false))) else (some false)) = some r := H
  have A4 := am_ A40
  clear A40
  by_cases c5 : t332 = true
  ·subst c5
   have H1 : ((impl_within.f a0_2 (-1) 255).bind fun t333 => (if t333 = true then ((impl_within.f a0_3 0 2000000000).bind fun t334 => (some t334)) else (some false))) = some r := by rw [if_pos rfl] at H; exact H
   clear H
   have H := H1
   clear H1
   replace H := Option.bind_eq_some_iff.mp H
   obtain ⟨t333, A60, H⟩ := H
   replace H : (if t333 = true then ((impl_within.f a0_3 0 2000000000).bind fun t334 => (some t334)) else (some false)) = some r := H
   have A6 := am_ A60
   clear A60
   by_cases c7 : t333 = true
   ·subst c7
    have H1 : ((impl_within.f a0_3 0 2000000000).bind fun t334 => (some t334)) = some r := by rw [if_pos rfl] at H; exact H
    clear H
    have H := H1
    clear H1
    replace H := Option.bind_eq_some_iff.mp H
    obtain ⟨t334, A80, H⟩ := H
    replace H : (some t334) = some r := H
    have A8 := am_ A80
    clear A80
    obtain rfl := Option.some.inj H
    go_enter Tryd.func94, Tryd.ntmps94
    go_wp2_with (first | ((with_reducible refine gate_dst (N := 1) rfl ?_); refine box_event ?hg (N := 1) ?hd (cs := #[.int .i64 a0_0, .int .i64 a0_1, .int .i64 a0_2, .int .i64 a0_3]) (t := 33) ?hr ?_; (case hd => rfl); (case hg => rfl); (case hr => first | (go_simp; done) | (go_simp; rfl)); intro gb330 hg w9 hbox hb; have n0_ := am_ (below_step (by repeat (first | (with_reducible first | exact HB.out | apply b1_ | apply b2_ | apply b3_) | exact HB.out)) hb); have n1_ := am_ (hbox); have n2_ := am_ ((by rw [hg]; exact (below_size (by repeat (first | (with_reducible first | exact HB.out | apply b1_ | apply b2_ | apply b3_) | exact HB.out))) : w.heap.size ≤ gb330)); have n3_ := am_ ((by rw [hg]; exact (below_size (by repeat (first | (with_reducible first | exact HB.out | apply b1_ | apply b2_ | apply b3_) | exact HB.out))) : w.heap.size ≤ gb330)); clear HB; have HB := n0_; have BK330 := n1_; have GW330 := n2_; have GE330 := n3_; clear n0_ n1_ n2_ n3_; clear hb hbox hg; have hcz10_0 : w9.cell? ⟨gb330, 0, none⟩ = some (.int .i64 a0_0) := (blk_cell BK330.out 0).trans rfl; have hcz10_1 : w9.cell? ⟨gb330, 1, none⟩ = some (.int .i64 a0_1) := (blk_cell BK330.out 1).trans rfl; have hcz10_2 : w9.cell? ⟨gb330, 2, none⟩ = some (.int .i64 a0_2) := (blk_cell BK330.out 2).trans rfl; have hcz10_3 : w9.cell? ⟨gb330, 3, none⟩ = some (.int .i64 a0_3) := (blk_cell BK330.out 3).trans rfl; have hfz10_0 := blk_frozen BK330.out 0; have hfz10_1 := blk_frozen BK330.out 1; have hfz10_2 := blk_frozen BK330.out 2; have hfz10_3 := blk_frozen BK330.out 3) | ((with_reducible refine gate_callee (f := 47) rfl ?_); refine goesL_ (some 5) rfl rfl Tryd.func47 (by kernel_rfl) rfl #[.int .i64 a0_0, .int .i64 1, .int .i64 8] rfl (by (try simp only [m1_, m2_, m3_]); first | done | rfl | (simp only [d1_, d2_]; rfl)) ?_; (with_reducible refine (impl_within.calls a0_0 1 8 true _ A2.out).mono ?_); rintro e w' ⟨rfl, ⟨nd, rfl⟩⟩; refine ⟨_, rfl, ?_⟩) | (go_at_call 47; (with_reducible refine (impl_within.calls a0_1 0 1000000 true _ A4.out).mono ?_); rintro e w' ⟨rfl, ⟨nd, rfl⟩⟩) | (go_at_call 47; (with_reducible refine (impl_within.calls a0_2 (-1) 255 true _ A6.out).mono ?_); rintro e w' ⟨rfl, ⟨nd, rfl⟩⟩) | (go_at_call 47; (with_reducible refine (impl_within.calls a0_3 0 2000000000 t334 _ A8.out).mono ?_); rintro e w' ⟨rfl, ⟨nd, rfl⟩⟩))
    go_ret
    exact ⟨by first | rfl | (simp [e1_, e2_] <;> rfl) | (simp [*, e1_, e2_] <;> rfl) | (simp [e3_, e4_]; done) | (simp [*, e3_, e4_]; done), by repeat (first | (with_reducible first | exact HB.out | apply b1_ | apply b2_ | apply b3_ | refine below_set ?_ GE330.out) | exact HB.out)⟩
   ·replace c7 := Bool.eq_false_iff.mpr c7
    subst c7
    have H1 : (some false) = some r := by rw [if_neg (show ¬ (false = true) by decide)] at H; exact H
    clear H
    have H := H1
    clear H1
    obtain rfl := Option.some.inj H
    go_enter Tryd.func94, Tryd.ntmps94
    go_wp2_with (first | ((with_reducible refine gate_dst (N := 1) rfl ?_); refine box_event ?hg (N := 1) ?hd (cs := #[.int .i64 a0_0, .int .i64 a0_1, .int .i64 a0_2, .int .i64 a0_3]) (t := 33) ?hr ?_; (case hd => rfl); (case hg => rfl); (case hr => first | (go_simp; done) | (go_simp; rfl)); intro gb330 hg w11 hbox hb; have n0_ := am_ (below_step (by repeat (first | (with_reducible first | exact HB.out | apply b1_ | apply b2_ | apply b3_) | exact HB.out)) hb); have n1_ := am_ (hbox); have n2_ := am_ ((by rw [hg]; exact (below_size (by repeat (first | (with_reducible first | exact HB.out | apply b1_ | apply b2_ | apply b3_) | exact HB.out))) : w.heap.size ≤ gb330)); have n3_ := am_ ((by rw [hg]; exact (below_size (by repeat (first | (with_reducible first | exact HB.out | apply b1_ | apply b2_ | apply b3_) | exact HB.out))) : w.heap.size ≤ gb330)); clear HB; have HB := n0_; have BK330 := n1_; have GW330 := n2_; have GE330 := n3_; clear n0_ n1_ n2_ n3_; clear hb hbox hg; have hcz12_0 : w11.cell? ⟨gb330, 0, none⟩ = some (.int .i64 a0_0) := (blk_cell BK330.out 0).trans rfl; have hcz12_1 : w11.cell? ⟨gb330, 1, none⟩ = some (.int .i64 a0_1) := (blk_cell BK330.out 1).trans rfl; have hcz12_2 : w11.cell? ⟨gb330, 2, none⟩ = some (.int .i64 a0_2) := (blk_cell BK330.out 2).trans rfl; have hcz12_3 : w11.cell? ⟨gb330, 3, none⟩ = some (.int .i64 a0_3) := (blk_cell BK330.out 3).trans rfl; have hfz12_0 := blk_frozen BK330.out 0; have hfz12_1 := blk_frozen BK330.out 1; have hfz12_2 := blk_frozen BK330.out 2; have hfz12_3 := blk_frozen BK330.out 3) | ((with_reducible refine gate_callee (f := 47) rfl ?_); refine goesL_ (some 5) rfl rfl Tryd.func47 (by kernel_rfl) rfl #[.int .i64 a0_0, .int .i64 1, .int .i64 8] rfl (by (try simp only [m1_, m2_, m3_]); first | done | rfl | (simp only [d1_, d2_]; rfl)) ?_; (with_reducible refine (impl_within.calls a0_0 1 8 true _ A2.out).mono ?_); rintro e w' ⟨rfl, ⟨nd, rfl⟩⟩; refine ⟨_, rfl, ?_⟩) | (go_at_call 47; (with_reducible refine (impl_within.calls a0_1 0 1000000 true _ A4.out).mono ?_); rintro e w' ⟨rfl, ⟨nd, rfl⟩⟩) | (go_at_call 47; (with_reducible refine (impl_within.calls a0_2 (-1) 255 false _ A6.out).mono ?_); rintro e w' ⟨rfl, ⟨nd, rfl⟩⟩))
    go_ret
    exact ⟨by first | rfl | (simp [e1_, e2_] <;> rfl) | (simp [*, e1_, e2_] <;> rfl) | (simp [e3_, e4_]; done) | (simp [*, e3_, e4_]; done), by repeat (first | (with_reducible first | exact HB.out | apply b1_ | apply b2_ | apply b3_ | refine below_set ?_ GE330.out) | exact HB.out)⟩
  ·replace c5 := Bool.eq_false_iff.mpr c5
   subst c5
   have H1 : (some false) = some r := by rw [if_neg (show ¬ (false = true) by decide)] at H; exact H
   clear H
   have H := H1
   clear H1
   obtain rfl := Option.some.inj H
   go_enter Tryd.func94, Tryd.ntmps94
   go_wp2_with (first | ((with_reducible refine gate_dst (N := 1) rfl ?_); refine box_event ?hg (N := 1) ?hd (cs := #[.int .i64 a0_0, .int .i64 a0_1, .int .i64 a0_2, .int .i64 a0_3]) (t := 33) ?hr ?_; (case hd => rfl); (case hg => rfl); (case hr => first | (go_simp; done) | (go_simp; rfl)); intro gb330 hg w13 hbox hb; have n0_ := am_ (below_step (by repeat (first | (with_reducible first | exact HB.out | apply b1_ | apply b2_ | apply b3_) | exact HB.out)) hb); have n1_ := am_ (hbox); have n2_ := am_ ((by rw [hg]; exact (below_size (by repeat (first | (with_reducible first | exact HB.out | apply b1_ | apply b2_ | apply b3_) | exact HB.out))) : w.heap.size ≤ gb330)); have n3_ := am_ ((by rw [hg]; exact (below_size (by repeat (first | (with_reducible first | exact HB.out | apply b1_ | apply b2_ | apply b3_) | exact HB.out))) : w.heap.size ≤ gb330)); clear HB; have HB := n0_; have BK330 := n1_; have GW330 := n2_; have GE330 := n3_; clear n0_ n1_ n2_ n3_; clear hb hbox hg; have hcz14_0 : w13.cell? ⟨gb330, 0, none⟩ = some (.int .i64 a0_0) := (blk_cell BK330.out 0).trans rfl; have hcz14_1 : w13.cell? ⟨gb330, 1, none⟩ = some (.int .i64 a0_1) := (blk_cell BK330.out 1).trans rfl; have hcz14_2 : w13.cell? ⟨gb330, 2, none⟩ = some (.int .i64 a0_2) := (blk_cell BK330.out 2).trans rfl; have hcz14_3 : w13.cell? ⟨gb330, 3, none⟩ = some (.int .i64 a0_3) := (blk_cell BK330.out 3).trans rfl; have hfz14_0 := blk_frozen BK330.out 0; have hfz14_1 := blk_frozen BK330.out 1; have hfz14_2 := blk_frozen BK330.out 2; have hfz14_3 := blk_frozen BK330.out 3) | ((with_reducible refine gate_callee (f := 47) rfl ?_); refine goesL_ (some 5) rfl rfl Tryd.func47 (by kernel_rfl) rfl #[.int .i64 a0_0, .int .i64 1, .int .i64 8] rfl (by (try simp only [m1_, m2_, m3_]); first | done | rfl | (simp only [d1_, d2_]; rfl)) ?_; (with_reducible refine (impl_within.calls a0_0 1 8 true _ A2.out).mono ?_); rintro e w' ⟨rfl, ⟨nd, rfl⟩⟩; refine ⟨_, rfl, ?_⟩) | (go_at_call 47; (with_reducible refine (impl_within.calls a0_1 0 1000000 false _ A4.out).mono ?_); rintro e w' ⟨rfl, ⟨nd, rfl⟩⟩))
   go_ret
   exact ⟨by first | rfl | (simp [e1_, e2_] <;> rfl) | (simp [*, e1_, e2_] <;> rfl) | (simp [e3_, e4_]; done) | (simp [*, e3_, e4_]; done), by repeat (first | (with_reducible first | exact HB.out | apply b1_ | apply b2_ | apply b3_ | refine below_set ?_ GE330.out) | exact HB.out)⟩
 ·replace c3 := Bool.eq_false_iff.mpr c3
  subst c3
  have H1 : (some false) = some r := by rw [if_neg (show ¬ (false = true) by decide)] at H; exact H
  clear H
  have H := H1
  clear H1
  obtain rfl := Option.some.inj H
  go_enter Tryd.func94, Tryd.ntmps94
  go_wp2_with (first | ((with_reducible refine gate_dst (N := 1) rfl ?_); refine box_event ?hg (N := 1) ?hd (cs := #[.int .i64 a0_0, .int .i64 a0_1, .int .i64 a0_2, .int .i64 a0_3]) (t := 33) ?hr ?_; (case hd => rfl); (case hg => rfl); (case hr => first | (go_simp; done) | (go_simp; rfl)); intro gb330 hg w15 hbox hb; have n0_ := am_ (below_step (by repeat (first | (with_reducible first | exact HB.out | apply b1_ | apply b2_ | apply b3_) | exact HB.out)) hb); have n1_ := am_ (hbox); have n2_ := am_ ((by rw [hg]; exact (below_size (by repeat (first | (with_reducible first | exact HB.out | apply b1_ | apply b2_ | apply b3_) | exact HB.out))) : w.heap.size ≤ gb330)); have n3_ := am_ ((by rw [hg]; exact (below_size (by repeat (first | (with_reducible first | exact HB.out | apply b1_ | apply b2_ | apply b3_) | exact HB.out))) : w.heap.size ≤ gb330)); clear HB; have HB := n0_; have BK330 := n1_; have GW330 := n2_; have GE330 := n3_; clear n0_ n1_ n2_ n3_; clear hb hbox hg; have hcz16_0 : w15.cell? ⟨gb330, 0, none⟩ = some (.int .i64 a0_0) := (blk_cell BK330.out 0).trans rfl; have hcz16_1 : w15.cell? ⟨gb330, 1, none⟩ = some (.int .i64 a0_1) := (blk_cell BK330.out 1).trans rfl; have hcz16_2 : w15.cell? ⟨gb330, 2, none⟩ = some (.int .i64 a0_2) := (blk_cell BK330.out 2).trans rfl; have hcz16_3 : w15.cell? ⟨gb330, 3, none⟩ = some (.int .i64 a0_3) := (blk_cell BK330.out 3).trans rfl; have hfz16_0 := blk_frozen BK330.out 0; have hfz16_1 := blk_frozen BK330.out 1; have hfz16_2 := blk_frozen BK330.out 2; have hfz16_3 := blk_frozen BK330.out 3) | ((with_reducible refine gate_callee (f := 47) rfl ?_); refine goesL_ (some 5) rfl rfl Tryd.func47 (by kernel_rfl) rfl #[.int .i64 a0_0, .int .i64 1, .int .i64 8] rfl (by (try simp only [m1_, m2_, m3_]); first | done | rfl | (simp only [d1_, d2_]; rfl)) ?_; (with_reducible refine (impl_within.calls a0_0 1 8 false _ A2.out).mono ?_); rintro e w' ⟨rfl, ⟨nd, rfl⟩⟩; refine ⟨_, rfl, ?_⟩))
  go_ret
  exact ⟨by first | rfl | (simp [e1_, e2_] <;> rfl) | (simp [*, e1_, e2_] <;> rfl) | (simp [e3_, e4_]; done) | (simp [*, e3_, e4_]; done), by repeat (first | (with_reducible first | exact HB.out | apply b1_ | apply b2_ | apply b3_ | refine below_set ?_ GE330.out) | exact HB.out)⟩
set_option maxHeartbeats 8000000 in
set_option maxRecDepth 100000 in
theorem impl_isReply.calls (a0_0 : Int) (a0_1 : Int) (a0_2 : Int) (a0_3 : Int) (a0_4 : Int) (a0_5 : Int) (a0_6 : Int) (a0_7 : ByteArray) (r : Bool) (w : World) (h : impl_isReply.f a0_0 a0_1 a0_2 a0_3 a0_4 a0_5 a0_6 a0_7 = some r) :
  Calls Tryd.prog 56 #[.agg #[.int .i64 a0_0, .int .i64 a0_1, .int .i64 a0_2, .int .i64 a0_3, .int .i64 a0_4, .int .i64 a0_5, .int .i64 a0_6, .string a0_7]] w fun e w' => e = .returned (.bool r) ∧ Below w.heap.size w w' := by
 have hu35 := Tryd.underlying35
 have hu33 := Tryd.underlying33
 have HB := am_ (Below.refl w.heap.size w)
 have H : ((impl_within.f a0_0 0 6).bind fun t336 => (if t336 = true then ((impl_within.f a0_1 0 255).bind fun t337 => (if t337 = true then ((impl_within.f a0_2 1 65535).bind fun t338 => (if t338 = true then ((impl_isAnswer.f a0_3 a0_4 a0_5 a0_6).bind fun t339 => (some t339)) else (some false))) else (some false))) else (some false))) = some r := h
 clear h
 replace H := Option.bind_eq_some_iff.mp H
 obtain ⟨t336, A20, H⟩ := H
 replace H : (if t336 = true then ((impl_within.f a0_1 0 255).bind fun t337 => (if t337 = true then ((impl_within.f a0_2 1 65535).bind fun t338 => (if t338 = true then ((impl_isAnswer.f a0_3 a0_4 a0_5 a0_6).bind fun t339 => (some t339)) else (some false))) else (some false))) else (some false)) = some r := H
 have A2 := am_ A20
 clear A20
 by_cases c3 : t336 = true
 ·subst c3
  have H1 : ((impl_within.f a0_1 0 255).bind fun t337 => (if t337 = true then ((impl_within.f a0_2 1 65535).bind fun t338 => (if t338 = true then ((impl_isAnswer.f a0_3 a0_4 a0_5 a0_6).bind fun t339 => (some t339)) else (some false))) else (some false))) = some r := by rw [if_pos rfl] at H; exact H
  clear H
  have H := H1
  clear H1
  replace H := Option.bind_eq_some_iff.mp H
  obtain ⟨t337, A40, H⟩ := H
  replace H : (if t337 = true then ((impl_within.f a0_2 1 65535).bind fun t338 => (if t338 = true then ((impl_isAnswer.f a0_3 a0_4 a0_5 a0_6).bind fun t339 => (some t339)) else (some false))) else (some false)) = some r := H
  have A4 := am_ A40
  clear A40
  by_cases c5 : t337 = true
  ·subst c5
   have H1 : ((impl_within.f a0_2 1 65535).bind fun t338 => (if t338 = true then ((impl_isAnswer.f a0_3 a0_4 a0_5 a0_6).bind fun t339 => (some t339)) else (some false))) = some r := by rw [if_pos rfl] at H; exact H
   clear H
   have H := H1
   clear H1
   replace H := Option.bind_eq_some_iff.mp H
   obtain ⟨t338, A60, H⟩ := H
   replace H : (if t338 = true then ((impl_isAnswer.f a0_3 a0_4 a0_5 a0_6).bind fun t339 => (some t339)) else (some false)) = some r := H
   have A6 := am_ A60
   clear A60
   by_cases c7 : t338 = true
   ·subst c7
    have H1 : ((impl_isAnswer.f a0_3 a0_4 a0_5 a0_6).bind fun t339 => (some t339)) = some r := by rw [if_pos rfl] at H; exact H
    clear H
    have H := H1
    clear H1
    replace H := Option.bind_eq_some_iff.mp H
    obtain ⟨t339, A80, H⟩ := H
    replace H : (some t339) = some r := H
    have A8 := am_ A80
    clear A80
    obtain rfl := Option.some.inj H
    go_enter Tryd.func56, Tryd.ntmps56
    go_wp2_with (first | ((with_reducible refine gate_dst (N := 1) rfl ?_); refine box_event ?hg (N := 1) ?hd (cs := #[.int .i64 a0_0, .int .i64 a0_1, .int .i64 a0_2, .int .i64 a0_3, .int .i64 a0_4, .int .i64 a0_5, .int .i64 a0_6, .string a0_7]) (t := 35) ?hr ?_; (case hd => rfl); (case hg => rfl); (case hr => first | (go_simp; done) | (go_simp; rfl)); intro gb335 hg w9 hbox hb; have n0_ := am_ (below_step (by repeat (first | (with_reducible first | exact HB.out | apply b1_ | apply b2_ | apply b3_) | exact HB.out)) hb); have n1_ := am_ (hbox); have n2_ := am_ ((by rw [hg]; exact (below_size (by repeat (first | (with_reducible first | exact HB.out | apply b1_ | apply b2_ | apply b3_) | exact HB.out))) : w.heap.size ≤ gb335)); have n3_ := am_ ((by rw [hg]; exact (below_size (by repeat (first | (with_reducible first | exact HB.out | apply b1_ | apply b2_ | apply b3_) | exact HB.out))) : w.heap.size ≤ gb335)); clear HB; have HB := n0_; have BK335 := n1_; have GW335 := n2_; have GE335 := n3_; clear n0_ n1_ n2_ n3_; clear hb hbox hg; have hcz10_0 : w9.cell? ⟨gb335, 0, none⟩ = some (.int .i64 a0_0) := (blk_cell BK335.out 0).trans rfl; have hcz10_1 : w9.cell? ⟨gb335, 1, none⟩ = some (.int .i64 a0_1) := (blk_cell BK335.out 1).trans rfl; have hcz10_2 : w9.cell? ⟨gb335, 2, none⟩ = some (.int .i64 a0_2) := (blk_cell BK335.out 2).trans rfl; have hcz10_3 : w9.cell? ⟨gb335, 3, none⟩ = some (.int .i64 a0_3) := (blk_cell BK335.out 3).trans rfl; have hcz10_4 : w9.cell? ⟨gb335, 4, none⟩ = some (.int .i64 a0_4) := (blk_cell BK335.out 4).trans rfl; have hcz10_5 : w9.cell? ⟨gb335, 5, none⟩ = some (.int .i64 a0_5) := (blk_cell BK335.out 5).trans rfl; have hcz10_6 : w9.cell? ⟨gb335, 6, none⟩ = some (.int .i64 a0_6) := (blk_cell BK335.out 6).trans rfl; have hcz10_7 : w9.cell? ⟨gb335, 7, none⟩ = some (.string a0_7) := (blk_cell BK335.out 7).trans rfl; have hfz10_0 := blk_frozen BK335.out 0; have hfz10_1 := blk_frozen BK335.out 1; have hfz10_2 := blk_frozen BK335.out 2; have hfz10_3 := blk_frozen BK335.out 3; have hfz10_4 := blk_frozen BK335.out 4; have hfz10_5 := blk_frozen BK335.out 5; have hfz10_6 := blk_frozen BK335.out 6; have hfz10_7 := blk_frozen BK335.out 7) | ((with_reducible refine gate_callee (f := 47) rfl ?_); refine goesL_ (some 5) rfl rfl Tryd.func47 (by kernel_rfl) rfl #[.int .i64 a0_0, .int .i64 0, .int .i64 6] rfl (by (try simp only [m1_, m2_, m3_]); first | done | rfl | (simp only [d1_, d2_]; rfl)) ?_; (with_reducible refine (impl_within.calls a0_0 0 6 true _ A2.out).mono ?_); rintro e w' ⟨rfl, ⟨nd, rfl⟩⟩; refine ⟨_, rfl, ?_⟩) | (go_at_call 47; (with_reducible refine (impl_within.calls a0_1 0 255 true _ A4.out).mono ?_); rintro e w' ⟨rfl, ⟨nd, rfl⟩⟩) | (go_at_call 47; (with_reducible refine (impl_within.calls a0_2 1 65535 true _ A6.out).mono ?_); rintro e w' ⟨rfl, ⟨nd, rfl⟩⟩) | (go_at_call 94; (with_reducible refine (impl_isAnswer.calls a0_3 a0_4 a0_5 a0_6 t339 _ A8.out).mono ?_); rintro e w11 ⟨rfl, hb⟩; have n0_ := am_ (blk_below (g := gb335) (o := .cells #[.int .i64 a0_0, .int .i64 a0_1, .int .i64 a0_2, .int .i64 a0_3, .int .i64 a0_4, .int .i64 a0_5, .int .i64 a0_6, .string a0_7] 35 (0, 0)) (by (with_reducible repeat (first | apply k1_ | apply k2_ | apply k3_)); exact BK335.out) hb); have n1_ := am_ (below_step (by repeat (first | (with_reducible first | exact HB.out | apply b1_ | apply b2_ | apply b3_ | refine below_set ?_ GE335.out) | exact HB.out)) hb); clear BK335; clear HB; have BK335 := n0_; have HB := n1_; clear n0_ n1_; (try clear hb); (try clear hb2); (try clear hk); (try clear hi)))
    go_ret
    exact ⟨by first | rfl | (simp [e1_, e2_] <;> rfl) | (simp [*, e1_, e2_] <;> rfl) | (simp [e3_, e4_]; done) | (simp [*, e3_, e4_]; done), by repeat (first | (with_reducible first | exact HB.out | apply b1_ | apply b2_ | apply b3_ | refine below_set ?_ GE335.out) | exact HB.out)⟩
   ·replace c7 := Bool.eq_false_iff.mpr c7
    subst c7
    have H1 : (some false) = some r := by rw [if_neg (show ¬ (false = true) by decide)] at H; exact H
    clear H
    have H := H1
    clear H1
    obtain rfl := Option.some.inj H
    go_enter Tryd.func56, Tryd.ntmps56
    go_wp2_with (first | ((with_reducible refine gate_dst (N := 1) rfl ?_); refine box_event ?hg (N := 1) ?hd (cs := #[.int .i64 a0_0, .int .i64 a0_1, .int .i64 a0_2, .int .i64 a0_3, .int .i64 a0_4, .int .i64 a0_5, .int .i64 a0_6, .string a0_7]) (t := 35) ?hr ?_; (case hd => rfl); (case hg => rfl); (case hr => first | (go_simp; done) | (go_simp; rfl)); intro gb335 hg w12 hbox hb; have n0_ := am_ (below_step (by repeat (first | (with_reducible first | exact HB.out | apply b1_ | apply b2_ | apply b3_) | exact HB.out)) hb); have n1_ := am_ (hbox); have n2_ := am_ ((by rw [hg]; exact (below_size (by repeat (first | (with_reducible first | exact HB.out | apply b1_ | apply b2_ | apply b3_) | exact HB.out))) : w.heap.size ≤ gb335)); have n3_ := am_ ((by rw [hg]; exact (below_size (by repeat (first | (with_reducible first | exact HB.out | apply b1_ | apply b2_ | apply b3_) | exact HB.out))) : w.heap.size ≤ gb335)); clear HB; have HB := n0_; have BK335 := n1_; have GW335 := n2_; have GE335 := n3_; clear n0_ n1_ n2_ n3_; clear hb hbox hg; have hcz13_0 : w12.cell? ⟨gb335, 0, none⟩ = some (.int .i64 a0_0) := (blk_cell BK335.out 0).trans rfl; have hcz13_1 : w12.cell? ⟨gb335, 1, none⟩ = some (.int .i64 a0_1) := (blk_cell BK335.out 1).trans rfl; have hcz13_2 : w12.cell? ⟨gb335, 2, none⟩ = some (.int .i64 a0_2) := (blk_cell BK335.out 2).trans rfl; have hcz13_3 : w12.cell? ⟨gb335, 3, none⟩ = some (.int .i64 a0_3) := (blk_cell BK335.out 3).trans rfl; have hcz13_4 : w12.cell? ⟨gb335, 4, none⟩ = some (.int .i64 a0_4) := (blk_cell BK335.out 4).trans rfl; have hcz13_5 : w12.cell? ⟨gb335, 5, none⟩ = some (.int .i64 a0_5) := (blk_cell BK335.out 5).trans rfl; have hcz13_6 : w12.cell? ⟨gb335, 6, none⟩ = some (.int .i64 a0_6) := (blk_cell BK335.out 6).trans rfl; have hcz13_7 : w12.cell? ⟨gb335, 7, none⟩ = some (.string a0_7) := (blk_cell BK335.out 7).trans rfl; have hfz13_0 := blk_frozen BK335.out 0; have hfz13_1 := blk_frozen BK335.out 1; have hfz13_2 := blk_frozen BK335.out 2; have hfz13_3 := blk_frozen BK335.out 3; have hfz13_4 := blk_frozen BK335.out 4; have hfz13_5 := blk_frozen BK335.out 5; have hfz13_6 := blk_frozen BK335.out 6; have hfz13_7 := blk_frozen BK335.out 7) | ((with_reducible refine gate_callee (f := 47) rfl ?_); refine goesL_ (some 5) rfl rfl Tryd.func47 (by kernel_rfl) rfl #[.int .i64 a0_0, .int .i64 0, .int .i64 6] rfl (by (try simp only [m1_, m2_, m3_]); first | done | rfl | (simp only [d1_, d2_]; rfl)) ?_; (with_reducible refine (impl_within.calls a0_0 0 6 true _ A2.out).mono ?_); rintro e w' ⟨rfl, ⟨nd, rfl⟩⟩; refine ⟨_, rfl, ?_⟩) | (go_at_call 47; (with_reducible refine (impl_within.calls a0_1 0 255 true _ A4.out).mono ?_); rintro e w' ⟨rfl, ⟨nd, rfl⟩⟩) | (go_at_call 47; (with_reducible refine (impl_within.calls a0_2 1 65535 false _ A6.out).mono ?_); rintro e w' ⟨rfl, ⟨nd, rfl⟩⟩))
    go_ret
    exact ⟨by first | rfl | (simp [e1_, e2_] <;> rfl) | (simp [*, e1_, e2_] <;> rfl) | (simp [e3_, e4_]; done) | (simp [*, e3_, e4_]; done), by repeat (first | (with_reducible first | exact HB.out | apply b1_ | apply b2_ | apply b3_ | refine below_set ?_ GE335.out) | exact HB.out)⟩
  ·replace c5 := Bool.eq_false_iff.mpr c5
   subst c5
   have H1 : (some false) = some r := by rw [if_neg (show ¬ (false = true) by decide)] at H; exact H
   clear H
   have H := H1
   clear H1
   obtain rfl := Option.some.inj H
   go_enter Tryd.func56, Tryd.ntmps56
   go_wp2_with (first | ((with_reducible refine gate_dst (N := 1) rfl ?_); refine box_event ?hg (N := 1) ?hd (cs := #[.int .i64 a0_0, .int .i64 a0_1, .int .i64 a0_2, .int .i64 a0_3, .int .i64 a0_4, .int .i64 a0_5, .int .i64 a0_6, .string a0_7]) (t := 35) ?hr ?_; (case hd => rfl); (case hg => rfl); (case hr => first | (go_simp; done) | (go_simp; rfl)); intro gb335 hg w14 hbox hb; have n0_ := am_ (below_step (by repeat (first | (with_reducible first | exact HB.out | apply b1_ | apply b2_ | apply b3_) | exact HB.out)) hb); have n1_ := am_ (hbox); have n2_ := am_ ((by rw [hg]; exact (below_size (by repeat (first | (with_reducible first | exact HB.out | apply b1_ | apply b2_ | apply b3_) | exact HB.out))) : w.heap.size ≤ gb335)); have n3_ := am_ ((by rw [hg]; exact (below_size (by repeat (first | (with_reducible first | exact HB.out | apply b1_ | apply b2_ | apply b3_) | exact HB.out))) : w.heap.size ≤ gb335)); clear HB; have HB := n0_; have BK335 := n1_; have GW335 := n2_; have GE335 := n3_; clear n0_ n1_ n2_ n3_; clear hb hbox hg; have hcz15_0 : w14.cell? ⟨gb335, 0, none⟩ = some (.int .i64 a0_0) := (blk_cell BK335.out 0).trans rfl; have hcz15_1 : w14.cell? ⟨gb335, 1, none⟩ = some (.int .i64 a0_1) := (blk_cell BK335.out 1).trans rfl; have hcz15_2 : w14.cell? ⟨gb335, 2, none⟩ = some (.int .i64 a0_2) := (blk_cell BK335.out 2).trans rfl; have hcz15_3 : w14.cell? ⟨gb335, 3, none⟩ = some (.int .i64 a0_3) := (blk_cell BK335.out 3).trans rfl; have hcz15_4 : w14.cell? ⟨gb335, 4, none⟩ = some (.int .i64 a0_4) := (blk_cell BK335.out 4).trans rfl; have hcz15_5 : w14.cell? ⟨gb335, 5, none⟩ = some (.int .i64 a0_5) := (blk_cell BK335.out 5).trans rfl; have hcz15_6 : w14.cell? ⟨gb335, 6, none⟩ = some (.int .i64 a0_6) := (blk_cell BK335.out 6).trans rfl; have hcz15_7 : w14.cell? ⟨gb335, 7, none⟩ = some (.string a0_7) := (blk_cell BK335.out 7).trans rfl; have hfz15_0 := blk_frozen BK335.out 0; have hfz15_1 := blk_frozen BK335.out 1; have hfz15_2 := blk_frozen BK335.out 2; have hfz15_3 := blk_frozen BK335.out 3; have hfz15_4 := blk_frozen BK335.out 4; have hfz15_5 := blk_frozen BK335.out 5; have hfz15_6 := blk_frozen BK335.out 6; have hfz15_7 := blk_frozen BK335.out 7) | ((with_reducible refine gate_callee (f := 47) rfl ?_); refine goesL_ (some 5) rfl rfl Tryd.func47 (by kernel_rfl) rfl #[.int .i64 a0_0, .int .i64 0, .int .i64 6] rfl (by (try simp only [m1_, m2_, m3_]); first | done | rfl | (simp only [d1_, d2_]; rfl)) ?_; (with_reducible refine (impl_within.calls a0_0 0 6 true _ A2.out).mono ?_); rintro e w' ⟨rfl, ⟨nd, rfl⟩⟩; refine ⟨_, rfl, ?_⟩) | (go_at_call 47; (with_reducible refine (impl_within.calls a0_1 0 255 false _ A4.out).mono ?_); rintro e w' ⟨rfl, ⟨nd, rfl⟩⟩))
   go_ret
   exact ⟨by first | rfl | (simp [e1_, e2_] <;> rfl) | (simp [*, e1_, e2_] <;> rfl) | (simp [e3_, e4_]; done) | (simp [*, e3_, e4_]; done), by repeat (first | (with_reducible first | exact HB.out | apply b1_ | apply b2_ | apply b3_ | refine below_set ?_ GE335.out) | exact HB.out)⟩
 ·replace c3 := Bool.eq_false_iff.mpr c3
  subst c3
  have H1 : (some false) = some r := by rw [if_neg (show ¬ (false = true) by decide)] at H; exact H
  clear H
  have H := H1
  clear H1
  obtain rfl := Option.some.inj H
  go_enter Tryd.func56, Tryd.ntmps56
  go_wp2_with (first | ((with_reducible refine gate_dst (N := 1) rfl ?_); refine box_event ?hg (N := 1) ?hd (cs := #[.int .i64 a0_0, .int .i64 a0_1, .int .i64 a0_2, .int .i64 a0_3, .int .i64 a0_4, .int .i64 a0_5, .int .i64 a0_6, .string a0_7]) (t := 35) ?hr ?_; (case hd => rfl); (case hg => rfl); (case hr => first | (go_simp; done) | (go_simp; rfl)); intro gb335 hg w16 hbox hb; have n0_ := am_ (below_step (by repeat (first | (with_reducible first | exact HB.out | apply b1_ | apply b2_ | apply b3_) | exact HB.out)) hb); have n1_ := am_ (hbox); have n2_ := am_ ((by rw [hg]; exact (below_size (by repeat (first | (with_reducible first | exact HB.out | apply b1_ | apply b2_ | apply b3_) | exact HB.out))) : w.heap.size ≤ gb335)); have n3_ := am_ ((by rw [hg]; exact (below_size (by repeat (first | (with_reducible first | exact HB.out | apply b1_ | apply b2_ | apply b3_) | exact HB.out))) : w.heap.size ≤ gb335)); clear HB; have HB := n0_; have BK335 := n1_; have GW335 := n2_; have GE335 := n3_; clear n0_ n1_ n2_ n3_; clear hb hbox hg; have hcz17_0 : w16.cell? ⟨gb335, 0, none⟩ = some (.int .i64 a0_0) := (blk_cell BK335.out 0).trans rfl; have hcz17_1 : w16.cell? ⟨gb335, 1, none⟩ = some (.int .i64 a0_1) := (blk_cell BK335.out 1).trans rfl; have hcz17_2 : w16.cell? ⟨gb335, 2, none⟩ = some (.int .i64 a0_2) := (blk_cell BK335.out 2).trans rfl; have hcz17_3 : w16.cell? ⟨gb335, 3, none⟩ = some (.int .i64 a0_3) := (blk_cell BK335.out 3).trans rfl; have hcz17_4 : w16.cell? ⟨gb335, 4, none⟩ = some (.int .i64 a0_4) := (blk_cell BK335.out 4).trans rfl; have hcz17_5 : w16.cell? ⟨gb335, 5, none⟩ = some (.int .i64 a0_5) := (blk_cell BK335.out 5).trans rfl; have hcz17_6 : w16.cell? ⟨gb335, 6, none⟩ = some (.int .i64 a0_6) := (blk_cell BK335.out 6).trans rfl; have hcz17_7 : w16.cell? ⟨gb335, 7, none⟩ = some (.string a0_7) := (blk_cell BK335.out 7).trans rfl; have hfz17_0 := blk_frozen BK335.out 0; have hfz17_1 := blk_frozen BK335.out 1; have hfz17_2 := blk_frozen BK335.out 2; have hfz17_3 := blk_frozen BK335.out 3; have hfz17_4 := blk_frozen BK335.out 4; have hfz17_5 := blk_frozen BK335.out 5; have hfz17_6 := blk_frozen BK335.out 6; have hfz17_7 := blk_frozen BK335.out 7) | ((with_reducible refine gate_callee (f := 47) rfl ?_); refine goesL_ (some 5) rfl rfl Tryd.func47 (by kernel_rfl) rfl #[.int .i64 a0_0, .int .i64 0, .int .i64 6] rfl (by (try simp only [m1_, m2_, m3_]); first | done | rfl | (simp only [d1_, d2_]; rfl)) ?_; (with_reducible refine (impl_within.calls a0_0 0 6 false _ A2.out).mono ?_); rintro e w' ⟨rfl, ⟨nd, rfl⟩⟩; refine ⟨_, rfl, ?_⟩))
  go_ret
  exact ⟨by first | rfl | (simp [e1_, e2_] <;> rfl) | (simp [*, e1_, e2_] <;> rfl) | (simp [e3_, e4_]; done) | (simp [*, e3_, e4_]; done), by repeat (first | (with_reducible first | exact HB.out | apply b1_ | apply b2_ | apply b3_ | refine below_set ?_ GE335.out) | exact HB.out)⟩
set_option maxHeartbeats 8000000 in
set_option maxRecDepth 100000 in
theorem impl_number.calls (k : Nat) (a0 : Int) (a1 : Int) (r : ByteArray) (w : World) (h : impl_number.f k a0 a1 = some r) :
  Calls Tryd.prog 85 #[.int .i64 a0, .int .i64 a1] w fun e w' => e = .returned (.string r) ∧ Below w.heap.size w w' := by
 have HB := am_ (Below.refl w.heap.size w)
 have H : (if 0 ≤ a1 then (if (a1 : Int).toNat ≤ 281474976710656 then (impl_number.l0 k a0 (List.replicate (a1 : Int).toNat 0) (wrap64 (a1 - 1))) else (none)) else (none)) = some r := h
 clear h
 by_cases c3 : 0 ≤ a1
 ·rw [if_pos c3] at H
  have c3b0 := eq_true c3
  have c3b1 : decide (0 ≤ a1) = true := decide_eq_true c3
  clear c3
  by_cases c4 : (a1 : Int).toNat ≤ 281474976710656
  ·rw [if_pos c4] at H
   have c4b0 := eq_true c4
   have c4b1 : decide ((a1 : Int).toNat ≤ 281474976710656) = true := decide_eq_true c4
   clear c4
   obtain ⟨y205, hy205⟩ : ∃ y_ : List Int, y_ = (List.replicate (a1 : Int).toNat 0) := ⟨_, rfl⟩
   replace H : (impl_number.l0 k a0 y205 (wrap64 (a1 - 1))) = some r := by first | (rw [hy205]; with_reducible exact H) | (have H2_ := (Option.bind_some _ _).symm.trans H; rw [hy205]; with_reducible exact H2_) | (have H2_ := (Option.bind_some _ _).symm.trans H; with_reducible exact H2_) | with_reducible exact H | (rw [hy205]; exact H) | exact H
   have Ny205 := am_ hy205
   clear hy205
   have H' := am_ H
   clear H
   go_enter Tryd.func85, Tryd.ntmps85
   go_wp2_with (first | ((with_reducible refine gate_dst (N := 8) rfl ?_); refine Kd.R_make (Kd.int .u8) _ 5 rfl (N := 8) rfl 94 _ _ rfl a1 rfl rfl Tryd.underlying94 (.int .u8 0) 1 info5 rfl (by decide) (by omega) 0 (ok := fun _ => True) (okp := fun _ => True) rfl (fun _ hk => hk) trivial (o1_ (by first | (with_reducible assumption) | assumption)) (Nat.le_trans (Nat.mul_le_mul_right _ (o1_ (by first | (with_reducible assumption) | assumption) : a1.toNat ≤ 281474976710656)) (by omega)) (Below.refl _ _) (Nat.le_refl _) ?_; intro v206 w5 ho6 hb hg_ hnew_; clear hg_ hnew_; (first | rw [← Ny205.out] at ho6 | (simp only [Int.reduceToNat] at ho6; rw [← Ny205.out] at ho6)); have n0_ := am_ (Kd.R_lower ho6 (below_size (by repeat (first | (with_reducible first | exact HB.out | apply b1_ | apply b2_ | apply b3_) | exact HB.out)))); have n1_ := am_ (below_step (by repeat (first | (with_reducible first | exact HB.out | apply b1_ | apply b2_ | apply b3_) | exact HB.out)) hb); clear HB; have HO207 := n0_; have HB := n1_; clear n0_ n1_; clear hb ho6))
   go_loopg [0, 6] k (fun kq v0 v6 w' => ∃ (x0_1 : Int) (x5_1 : List Int) (x6_1 : Int), v0 = .int .i64 x0_1 ∧ v6 = .int .i64 x6_1 ∧ Aside0 (impl_number.l0 kq x0_1 x5_1 x6_1 = some r) ∧ Aside0 (kq ≤ k) ∧ Aside0 (Kd.R (Kd.int .u8) 5 w' w.heap.size (fun _ => True) v206 x5_1) ∧ Aside0 (Below w.heap.size w w'))
   case atStart => exact ⟨(a0), (y205), (wrap64 (a1 - 1)), (by first | rfl | (simp; done) | (simp [*]; done)), (by first | rfl | (simp; done) | (simp [*]; done)), H', ⟨Nat.le_refl _⟩, ⟨by (with_reducible repeat (first | apply r1_ | apply r2_ | apply r3_)); exact HO207.out⟩, ⟨by repeat (first | (with_reducible first | exact HB.out | apply b1_ | apply b2_ | apply b3_) | exact HB.out)⟩⟩
   case round =>
    clear H'
    try clear p2
    try clear c3
    try clear c3b0
    try clear c3b1
    try clear c4
    try clear c4b0
    try clear c4b1
    try clear p6
    obtain ⟨x0_1, x5_1, x6_1, rfl, rfl, HA, HK1, HO_5, HB⟩ := hrel
    cases gk with
    | zero => exact absurd HA.out (by simp [impl_number.l0])
    | succ k1 =>
     have H := HA.out
     clear HA
     simp only [impl_number.l0] at H
     by_cases c7 : x6_1 ≥ 0
     ·rw [if_pos c7] at H
      have c7b0 : decide (0 ≤ x6_1) = true := decide_eq_true c7
      clear c7
      by_cases c8 : 0 ≤ x6_1
      ·rw [if_pos c8] at H
       have c8b0 : decide (0 ≤ x6_1) = true := decide_eq_true c8
       clear c8
       by_cases c9 : x6_1 < (x5_1.length : Int)
       ·rw [if_pos c9] at H
        have c9b0 : decide (x6_1 < (x5_1.length : Int)) = true := decide_eq_true c9
        clear c9
        obtain ⟨y208, hy208⟩ : ∃ y_ : List Int, y_ = (x5_1.set (x6_1 : Int).toNat ((x0_1) % 256)) := ⟨_, rfl⟩
        replace H : (impl_number.l0 k1 (x0_1 / 256) y208 (wrap64 (x6_1 - 1))) = some r := by first | (rw [hy208]; with_reducible exact H) | (have H2_ := (Option.bind_some _ _).symm.trans H; rw [hy208]; with_reducible exact H2_) | (have H2_ := (Option.bind_some _ _).symm.trans H; with_reducible exact H2_) | with_reducible exact H | (rw [hy208]; exact H) | exact H
        have Ny208 := am_ hy208
        clear hy208
        have H' := am_ H
        clear H
        have p10 : 0 ≤ (x6_1 : Int) := o1_ (by first | (with_reducible assumption) | assumption)
        have q10 : (x6_1 : Int) < ((x5_1.length : Int) : Int) := o1_ (by first | (with_reducible assumption) | assumption)
        obtain ⟨go10, co10, eo10, gb10, gl10, cl10, HG10⟩ := Kd.R_form HO_5.out (by omega)
        (first | cases eo10 | (injection eo10 with ea_ en_ ec_; (first | subst ea_ | (injection ea_ with ea_; subst ea_)); subst ec_; clear en_))
        have GB10 := am_ gb10
        have GG10 := am_ HG10
        clear gb10 gl10 HG10
        obtain ⟨hx10_0, hf10_0⟩ := Kd.R_celln 0 HO_5.out (x6_1 : Int) p10 q10
        replace p10 := eq_true p10
        replace q10 := eq_true q10
        have HP11 := Kd.R_putg HO_5.out (x6_1 : Int) ((x0_1) % 256)
        go_wp2_with (first | ((with_reducible refine gate_store (t := 5) (p := 19) rfl ?_); refine store_event (t := 5) (p := 19) (v := ?vo_w12) (w1 := (wr.setCell ⟨go10, (x6_1 : Int).toNat, none⟩ (.int .u8 ((x0_1) % 256)))) ?hg ?ho ?hn ?hr ?_; (case ho => rfl); (case hg => rfl); (case hn => rfl); (case hr => first | (go_simp; done) | (go_simp; rfl)); intro w12 hw; have hg : wr.grownBy w12 (some go10) := (by rw [hw]; exact HP11.2); have hp_ : Kd.R (Kd.int .u8) 5 w12 w.heap.size (fun _ => True) (.slice (some ⟨go10, 0, none⟩) x5_1.length co10) y208 := (by rw [hw, Ny208.out]; exact HP11.1); clear HP11; have n0_ := am_ (hp_); have n1_ := am_ ((by rw [hw]; exact below_set (HB.out) GB10.out : Below w.heap.size w w12)); clear HO_5; clear HB; have HO_5 := n0_; have HB := n1_; clear n0_ n1_; clear hg hw hp_))
        go_roundg k1
        case measure => have := HK1.out; omega
        case rel => exact ⟨(x0_1 / 256), (y208), (wrap64 (x6_1 - 1)), (by first | rfl | (simp; done) | (simp [*]; done)), (by first | rfl | (simp; done) | (simp [*]; done)), H', ⟨by have := HK1.out; omega⟩, ⟨by (with_reducible repeat (first | apply r1_ | apply r2_ | apply r3_)); exact HO_5.out⟩, ⟨by repeat (first | (with_reducible first | exact HB.out | apply b1_ | apply b2_ | apply b3_) | exact HB.out)⟩⟩
       ·rw [if_neg c9] at H
        exact absurd H (by simp)
      ·rw [if_neg c8] at H
       exact absurd H (by simp)
     ·rw [if_neg c7] at H
      have c7b0 : decide (0 ≤ x6_1) = false := decide_eq_false c7
      clear c7
      obtain rfl := Option.some.inj H
      have hcv13 := own_string (P := Tryd.prog) Tryd.underlying94 Tryd.underlying5 Tryd.underlying9 (Kd.own_of_R HO_5.out)
      go_wp2
      go_ret
      exact ⟨by first | rfl | (simp [e1_, e2_] <;> rfl) | (simp [*, e1_, e2_] <;> rfl) | (simp [e3_, e4_]; done) | (simp [*, e3_, e4_]; done), by repeat (first | (with_reducible first | exact HB.out | apply b1_ | apply b2_ | apply b3_) | exact HB.out)⟩
  ·rw [if_neg c4] at H
   exact absurd H (by simp)
 ·rw [if_neg c3] at H
  exact absurd H (by simp)
def impl_answerText.T1 : Bool × List (List Nat × List Nat) := (true, [([], []), ([0], [0]), ([1], [1]), ([], []), ([3], [3]), ([4, 2], [4]), ([2, 5], [2, 5]), ([], []), ([7], [7]), ([8], [8]), ([9, 5], [9]), ([6, 10], [6, 10]), ([], []), ([12], [12]), ([13, 10], [13]), ([11, 14], [11, 14]), ([15, 14, 0, 1, 2, 3, 4, 5, 6, 7, 8, 9, 10, 11, 12, 13, 14, 15], [15])])
def impl_answerText.B1 : List Nat := [0, 1, 3, 0, 8, 31, 63, 0, 128, 384, 959, 2047, 0, 4096, 14271, 32767, 65535]
theorem impl_answerText.tab1 : rtab .any (opsOf Tryd.f95 1) = impl_answerText.T1 := by kernel_rfl
theorem impl_answerText.bits1 : waitsOk impl_answerText.T1.2 impl_answerText.B1 = true := by kernel_rfl
set_option maxHeartbeats 8000000 in
set_option maxRecDepth 100000 in
theorem impl_answerText.calls (k : Nat) (a0_0 : Int) (a0_1 : Int) (a0_2 : Int) (a0_3 : Int) (r : ByteArray) (w : World) (h : impl_answerText.f k a0_0 a0_1 a0_2 a0_3 = some r) :
  Calls Tryd.prog 95 #[.agg #[.int .i64 a0_0, .int .i64 a0_1, .int .i64 a0_2, .int .i64 a0_3]] w fun e w' => e = .returned (.string r) ∧ Below w.heap.size w w' := by
 have hu33 := Tryd.underlying33
 have HB := am_ (Below.refl w.heap.size w)
 have H : ((impl_number.f k a0_0 1).bind fun t341 => ((impl_number.f k a0_1 3).bind fun t342 => (if t341.size + t342.size ≤ 9223372036854775807 then ((impl_number.f k (wrap64 (a0_2 + 1)) 2).bind fun t343 => (if (t341 ++ t342).size + t343.size ≤ 9223372036854775807 then ((impl_number.f k a0_3 4).bind fun t344 => (if ((t341 ++ t342) ++ t343).size + t344.size ≤ 9223372036854775807 then (some (((t341 ++ t342) ++ t343) ++ t344)) else (none))) else (none))) else (none)))) = some r := h
 clear h
 replace H := Option.bind_eq_some_iff.mp H
 obtain ⟨t341, A20, H⟩ := H
 replace H : ((impl_number.f k a0_1 3).bind fun t342 => (if t341.size + t342.size ≤ 9223372036854775807 then ((impl_number.f k (wrap64 (a0_2 + 1)) 2).bind fun t343 => (if (t341 ++ t342).size + t343.size ≤ 9223372036854775807 then ((impl_number.f k a0_3 4).bind fun t344 => (if ((t341 ++ t342) ++ t343).size + t344.size ≤ 9223372036854775807 then (some (((t341 ++ t342) ++ t343) ++ t344)) else (none))) else (none))) else (none))) = some r := H
 have A2 := am_ A20
 clear A20
 replace H := Option.bind_eq_some_iff.mp H
 obtain ⟨t342, A30, H⟩ := H
 replace H : (if t341.size + t342.size ≤ 9223372036854775807 then ((impl_number.f k (wrap64 (a0_2 + 1)) 2).bind fun t343 => (if (t341 ++ t342).size + t343.size ≤ 9223372036854775807 then ((impl_number.f k a0_3 4).bind fun t344 => (if ((t341 ++ t342) ++ t343).size + t344.size ≤ 9223372036854775807 then (some (((t341 ++ t342) ++ t343) ++ t344)) else (none))) else (none))) else (none)) = some r := H
 have A3 := am_ A30
 clear A30
 by_cases c4 : t341.size + t342.size ≤ 9223372036854775807
 ·rw [if_pos c4] at H
  have c4b0 := eq_true c4
  have c4b1 : decide (t341.size + t342.size ≤ 9223372036854775807) = true := decide_eq_true c4
  try have c4b2 : (9223372036854775807 < t341.size + t342.size) = False := eq_false (Nat.not_lt.2 c4)
  replace H := Option.bind_eq_some_iff.mp H
  obtain ⟨t343, A50, H⟩ := H
  replace H : (if (t341 ++ t342).size + t343.size ≤ 9223372036854775807 then ((impl_number.f k a0_3 4).bind fun t344 => (if ((t341 ++ t342) ++ t343).size + t344.size ≤ 9223372036854775807 then (some (((t341 ++ t342) ++ t343) ++ t344)) else (none))) else (none)) = some r := H
  have A5 := am_ A50
  clear A50
  by_cases c6 : (t341 ++ t342).size + t343.size ≤ 9223372036854775807
  ·rw [if_pos c6] at H
   have c6b0 := eq_true c6
   have c6b1 : decide ((t341 ++ t342).size + t343.size ≤ 9223372036854775807) = true := decide_eq_true c6
   try have c6b2 : (9223372036854775807 < (t341 ++ t342).size + t343.size) = False := eq_false (Nat.not_lt.2 c6)
   (try have c6b3 := c6b2; simp only [ByteArray.size_append] at c6b3)
   replace H := Option.bind_eq_some_iff.mp H
   obtain ⟨t344, A70, H⟩ := H
   replace H : (if ((t341 ++ t342) ++ t343).size + t344.size ≤ 9223372036854775807 then (some (((t341 ++ t342) ++ t343) ++ t344)) else (none)) = some r := H
   have A7 := am_ A70
   clear A70
   by_cases c8 : ((t341 ++ t342) ++ t343).size + t344.size ≤ 9223372036854775807
   ·rw [if_pos c8] at H
    have c8b0 := eq_true c8
    have c8b1 : decide (((t341 ++ t342) ++ t343).size + t344.size ≤ 9223372036854775807) = true := decide_eq_true c8
    try have c8b2 : (9223372036854775807 < ((t341 ++ t342) ++ t343).size + t344.size) = False := eq_false (Nat.not_lt.2 c8)
    (try have c8b3 := c8b2; simp only [ByteArray.size_append] at c8b3)
    obtain rfl := Option.some.inj H
    go_enter Tryd.func95, Tryd.ntmps95
    try go_wp2_with (first | ((with_reducible refine gate_dst (N := 1) rfl ?_); refine box_event ?hg (N := 1) ?hd (cs := #[.int .i64 a0_0, .int .i64 a0_1, .int .i64 a0_2, .int .i64 a0_3]) (t := 33) ?hr ?_; (case hd => rfl); (case hg => rfl); (case hr => first | (go_simp; done) | (go_simp; rfl)); intro gb340 hg w9 hbox hb; have n0_ := am_ (below_step (by repeat (first | (with_reducible first | exact HB.out | apply b1_ | apply b2_ | apply b3_) | exact HB.out)) hb); have n1_ := am_ (hbox); have n2_ := am_ ((by rw [hg]; exact (below_size (by repeat (first | (with_reducible first | exact HB.out | apply b1_ | apply b2_ | apply b3_) | exact HB.out))) : w.heap.size ≤ gb340)); have n3_ := am_ ((by rw [hg]; exact (below_size (by repeat (first | (with_reducible first | exact HB.out | apply b1_ | apply b2_ | apply b3_) | exact HB.out))) : w.heap.size ≤ gb340)); clear HB; have HB := n0_; have BK340 := n1_; have GW340 := n2_; have GE340 := n3_; clear n0_ n1_ n2_ n3_; clear hb hbox hg))
    have n0_ := am_ (blk_drew BK340.out)
    have n1_ := am_ (below_drew1 HB.out)
    clear BK340
    clear HB
    have BK340 := n0_
    have HB := n1_
    clear n0_ n1_
    refine start_ (n := 17) (S := fun w' => w'.cell? ⟨gb340, 0, none⟩ = some (.int .i64 a0_0) ∧ w'.cell? ⟨gb340, 1, none⟩ = some (.int .i64 a0_1) ∧ w'.cell? ⟨gb340, 2, none⟩ = some (.int .i64 a0_2) ∧ w'.cell? ⟨gb340, 3, none⟩ = some (.int .i64 a0_3)) (ds := []) #[false, false, false, false, false, false, false, false, false, false, false, false, false, false, false, false, false] (by kernel_rfl) rfl rfl ⟨(blk_cell BK340.out 0).trans rfl, (blk_cell BK340.out 1).trans rfl, (blk_cell BK340.out 2).trans rfl, (blk_cell BK340.out 3).trans rfl⟩ (fun hHeld => ?_); refine with_tabW impl_answerText.tab1 impl_answerText.bits1 (fun HT_ HW_ => ?_)
    generalize w9.drew = w10 at BK340 HB hHeld ⊢
    refine pure_ (i := 0) (N := some 3) (v := ?_) (a' := ?_) #[true, false, false, false, false, false, false, false, false, false, false, false, false, false, false, false, false] rfl rfl (any_of HT_.out (by kernel_rfl)) (fun _ _ _ h => h) (Or.inl ⟨by rfl, ?_⟩) ?_ ?_
    rotate_left
    ·intro w'
     go_simp
     with_reducible rfl
    rotate_left
    ·simp only [Act.put, p1_, p2_, p3_, i64_w, i32_w]
     rfl
    refine pure_ (i := 3) (N := some 6) (v := ?_) (a' := ?_) #[true, false, false, true, false, false, false, false, false, false, false, false, false, false, false, false, false] rfl rfl (any_of HT_.out (by kernel_rfl)) (fun _ _ _ h => h) (Or.inl ⟨by rfl, ?_⟩) ?_ ?_
    rotate_left
    ·intro w'
     go_simp
     with_reducible rfl
    rotate_left
    ·simp only [Act.put, p1_, p2_, p3_, i64_w, i32_w]
     rfl
    refine pure_ (i := 7) (N := some 10) (v := ?_) (a' := ?_) #[true, false, false, true, false, false, false, true, false, false, false, false, false, false, false, false, false] rfl rfl (any_of HT_.out (by kernel_rfl)) (fun _ _ _ h => h) (Or.inl ⟨by rfl, ?_⟩) ?_ ?_
    rotate_left
    ·intro w'
     go_simp
     with_reducible rfl
    rotate_left
    ·simp only [Act.put, p1_, p2_, p3_, i64_w, i32_w]
     rfl
    refine pure_ (i := 12) (N := some 15) (v := ?_) (a' := ?_) #[true, false, false, true, false, false, false, true, false, false, false, false, true, false, false, false, false] rfl rfl (any_of HT_.out (by kernel_rfl)) (fun _ _ _ h => h) (Or.inl ⟨by rfl, ?_⟩) ?_ ?_
    rotate_left
    ·intro w'
     go_simp
     with_reducible rfl
    rotate_left
    ·simp only [Act.put, p1_, p2_, p3_, i64_w, i32_w]
     rfl
    refine take_ (i := 1) (N := some 4) (v := ?_) (a' := ?_) #[true, true, false, true, false, false, false, true, false, false, false, false, true, false, false, false, false] rfl rfl (take_ofW HT_.out HW_.out (by kernel_rfl)) (fun _ _ _ h => h) (Or.inl ⟨by rfl, ?_⟩) hHeld ?_ ?_
    rotate_left
    ·rintro w' ⟨s0, s1, s2, s3⟩
     go_simp
     with_reducible rfl
    rotate_left
    ·simp only [Act.put, p1_, p2_, p3_, i64_w, i32_w]
     rfl
    refine take_ (i := 4) (N := some 7) (v := ?_) (a' := ?_) #[true, true, false, true, true, false, false, true, false, false, false, false, true, false, false, false, false] rfl rfl (take_ofW HT_.out HW_.out (by kernel_rfl)) (fun _ _ _ h => h) (Or.inl ⟨by rfl, ?_⟩) hHeld ?_ ?_
    rotate_left
    ·rintro w' ⟨s0, s1, s2, s3⟩
     go_simp
     with_reducible rfl
    rotate_left
    ·simp only [Act.put, p1_, p2_, p3_, i64_w, i32_w]
     rfl
    refine take_ (i := 8) (N := some 11) (v := ?_) (a' := ?_) #[true, true, false, true, true, false, false, true, true, false, false, false, true, false, false, false, false] rfl rfl (take_ofW HT_.out HW_.out (by kernel_rfl)) (fun _ _ _ h => h) (Or.inl ⟨by rfl, ?_⟩) hHeld ?_ ?_
    rotate_left
    ·rintro w' ⟨s0, s1, s2, s3⟩
     go_simp
     with_reducible rfl
    rotate_left
    ·simp only [Act.put, p1_, p2_, p3_, i64_w, i32_w]
     rfl
    refine pure_ (i := 9) (N := some 12) (v := ?_) (a' := ?_) #[true, true, false, true, true, false, false, true, true, true, false, false, true, false, false, false, false] rfl rfl (any_of HT_.out (by kernel_rfl)) (fun _ _ _ h => h) (Or.inl ⟨by rfl, ?_⟩) ?_ ?_
    rotate_left
    ·intro w'
     go_simp
     with_reducible rfl
    rotate_left
    ·simp only [Act.put, p1_, p2_, p3_, i64_w, i32_w]
     rfl
    refine take_ (i := 13) (N := some 16) (v := ?_) (a' := ?_) #[true, true, false, true, true, false, false, true, true, true, false, false, true, true, false, false, false] rfl rfl (take_ofW HT_.out HW_.out (by kernel_rfl)) (fun _ _ _ h => h) (Or.inl ⟨by rfl, ?_⟩) hHeld ?_ ?_
    rotate_left
    ·rintro w' ⟨s0, s1, s2, s3⟩
     go_simp
     with_reducible rfl
    rotate_left
    ·simp only [Act.put, p1_, p2_, p3_, i64_w, i32_w]
     rfl
    refine one_ (i := 2) (N := some 5) #[true, true, true, true, true, false, false, true, true, true, false, false, true, true, false, false, false] rfl rfl (one_of HT_.out (by kernel_rfl)) (by decide) (fun K hK => ?_)
    refine goes_ Tryd.func85 (by kernel_rfl) rfl #[.int .i64 a0_0, .int .i64 1] (by rfl) rfl rfl (by (try simp only [m1_, m2_, m3_]); first | done | rfl | (simp only [d1_, d2_]; rfl)) ?_
    with_reducible refine (impl_number.calls k a0_0 1 t341 _ A2.out).mono ?_
    rintro e w11 ⟨rfl, hb⟩
    refine ⟨_, rfl, ?_⟩
    have n0_ := am_ (blk_below (g := gb340) (o := .cells #[.int .i64 a0_0, .int .i64 a0_1, .int .i64 a0_2, .int .i64 a0_3] 33 (0, 0)) (by (with_reducible repeat (first | apply k1_ | apply k2_ | apply k3_)); exact BK340.out) hb)
    have n1_ := am_ (below_step (by repeat (first | (with_reducible first | exact HB.out | apply b1_ | apply b2_ | apply b3_ | refine below_set ?_ GE340.out) | exact HB.out)) hb)
    clear BK340
    clear HB
    have BK340 := n0_
    have HB := n1_
    clear n0_ n1_
    (try clear hb)
    (try clear hb2)
    (try clear hk)
    (try clear hi)
    refine hK.out _ _ ⟨(blk_cell BK340.out 0).trans rfl, (blk_cell BK340.out 1).trans rfl, (blk_cell BK340.out 2).trans rfl, (blk_cell BK340.out 3).trans rfl⟩ (fun hHeld => ?_)
    clear hK K
    refine norm_ (a' := ?_) ?_ ?_
    rotate_left
    ·show Act.put _ (some 5) _ = _
     simp only [Act.put, p1_, p2_, p3_, i64_w, i32_w]
     rfl
    refine one_ (i := 5) (N := some 8) #[true, true, true, true, true, true, false, true, true, true, false, false, true, true, false, false, false] rfl rfl (one_of HT_.out (by kernel_rfl)) (by decide) (fun K hK => ?_)
    refine goes_ Tryd.func85 (by kernel_rfl) rfl #[.int .i64 a0_1, .int .i64 3] (by rfl) rfl rfl (by (try simp only [m1_, m2_, m3_]); first | done | rfl | (simp only [d1_, d2_]; rfl)) ?_
    with_reducible refine (impl_number.calls k a0_1 3 t342 _ A3.out).mono ?_
    rintro e w12 ⟨rfl, hb⟩
    refine ⟨_, rfl, ?_⟩
    have n0_ := am_ (blk_below (g := gb340) (o := .cells #[.int .i64 a0_0, .int .i64 a0_1, .int .i64 a0_2, .int .i64 a0_3] 33 (0, 0)) (by (with_reducible repeat (first | apply k1_ | apply k2_ | apply k3_)); exact BK340.out) hb)
    have n1_ := am_ (below_step (by repeat (first | (with_reducible first | exact HB.out | apply b1_ | apply b2_ | apply b3_ | refine below_set ?_ GE340.out) | exact HB.out)) hb)
    clear BK340
    clear HB
    have BK340 := n0_
    have HB := n1_
    clear n0_ n1_
    (try clear hb)
    (try clear hb2)
    (try clear hk)
    (try clear hi)
    refine hK.out _ _ ⟨(blk_cell BK340.out 0).trans rfl, (blk_cell BK340.out 1).trans rfl, (blk_cell BK340.out 2).trans rfl, (blk_cell BK340.out 3).trans rfl⟩ (fun hHeld => ?_)
    clear hK K
    refine norm_ (a' := ?_) ?_ ?_
    rotate_left
    ·show Act.put _ (some 8) _ = _
     simp only [Act.put, p1_, p2_, p3_, i64_w, i32_w]
     rfl
    refine pure_ (i := 6) (N := some 9) (v := ?_) (a' := ?_) #[true, true, true, true, true, true, true, true, true, true, false, false, true, true, false, false, false] rfl rfl (any_of HT_.out (by kernel_rfl)) (fun _ _ _ h => h) (Or.inl ⟨by rfl, ?_⟩) ?_ ?_
    rotate_left
    ·intro w'
     go_simp
     with_reducible rfl
    rotate_left
    ·simp only [Act.put, p1_, p2_, p3_, i64_w, i32_w]
     rfl
    refine one_ (i := 10) (N := some 13) #[true, true, true, true, true, true, true, true, true, true, true, false, true, true, false, false, false] rfl rfl (one_of HT_.out (by kernel_rfl)) (by decide) (fun K hK => ?_)
    refine goes_ Tryd.func85 (by kernel_rfl) rfl #[.int .i64 (wrap64 (a0_2 + 1)), .int .i64 2] (by rfl) rfl rfl (by (try simp only [m1_, m2_, m3_]); first | done | rfl | (simp only [d1_, d2_]; rfl)) ?_
    with_reducible refine (impl_number.calls k (wrap64 (a0_2 + 1)) 2 t343 _ A5.out).mono ?_
    rintro e w13 ⟨rfl, hb⟩
    refine ⟨_, rfl, ?_⟩
    have n0_ := am_ (blk_below (g := gb340) (o := .cells #[.int .i64 a0_0, .int .i64 a0_1, .int .i64 a0_2, .int .i64 a0_3] 33 (0, 0)) (by (with_reducible repeat (first | apply k1_ | apply k2_ | apply k3_)); exact BK340.out) hb)
    have n1_ := am_ (below_step (by repeat (first | (with_reducible first | exact HB.out | apply b1_ | apply b2_ | apply b3_ | refine below_set ?_ GE340.out) | exact HB.out)) hb)
    clear BK340
    clear HB
    have BK340 := n0_
    have HB := n1_
    clear n0_ n1_
    (try clear hb)
    (try clear hb2)
    (try clear hk)
    (try clear hi)
    refine hK.out _ _ ⟨(blk_cell BK340.out 0).trans rfl, (blk_cell BK340.out 1).trans rfl, (blk_cell BK340.out 2).trans rfl, (blk_cell BK340.out 3).trans rfl⟩ (fun hHeld => ?_)
    clear hK K
    refine norm_ (a' := ?_) ?_ ?_
    rotate_left
    ·show Act.put _ (some 13) _ = _
     simp only [Act.put, p1_, p2_, p3_, i64_w, i32_w]
     rfl
    refine pure_ (i := 11) (N := some 14) (v := ?_) (a' := ?_) #[true, true, true, true, true, true, true, true, true, true, true, true, true, true, false, false, false] rfl rfl (any_of HT_.out (by kernel_rfl)) (fun _ _ _ h => h) (Or.inl ⟨by rfl, ?_⟩) ?_ ?_
    rotate_left
    ·intro w'
     go_simp
     with_reducible rfl
    rotate_left
    ·simp only [Act.put, p1_, p2_, p3_, i64_w, i32_w]
     rfl
    refine one_ (i := 14) (N := some 17) #[true, true, true, true, true, true, true, true, true, true, true, true, true, true, true, false, false] rfl rfl (one_of HT_.out (by kernel_rfl)) (by decide) (fun K hK => ?_)
    refine goes_ Tryd.func85 (by kernel_rfl) rfl #[.int .i64 a0_3, .int .i64 4] (by rfl) rfl rfl (by (try simp only [m1_, m2_, m3_]); first | done | rfl | (simp only [d1_, d2_]; rfl)) ?_
    with_reducible refine (impl_number.calls k a0_3 4 t344 _ A7.out).mono ?_
    rintro e w14 ⟨rfl, hb⟩
    refine ⟨_, rfl, ?_⟩
    have n0_ := am_ (blk_below (g := gb340) (o := .cells #[.int .i64 a0_0, .int .i64 a0_1, .int .i64 a0_2, .int .i64 a0_3] 33 (0, 0)) (by (with_reducible repeat (first | apply k1_ | apply k2_ | apply k3_)); exact BK340.out) hb)
    have n1_ := am_ (below_step (by repeat (first | (with_reducible first | exact HB.out | apply b1_ | apply b2_ | apply b3_ | refine below_set ?_ GE340.out) | exact HB.out)) hb)
    clear BK340
    clear HB
    have BK340 := n0_
    have HB := n1_
    clear n0_ n1_
    (try clear hb)
    (try clear hb2)
    (try clear hk)
    (try clear hi)
    refine hK.out _ _ ⟨(blk_cell BK340.out 0).trans rfl, (blk_cell BK340.out 1).trans rfl, (blk_cell BK340.out 2).trans rfl, (blk_cell BK340.out 3).trans rfl⟩ (fun hHeld => ?_)
    clear hK K
    refine norm_ (a' := ?_) ?_ ?_
    rotate_left
    ·show Act.put _ (some 17) _ = _
     simp only [Act.put, p1_, p2_, p3_, i64_w, i32_w]
     rfl
    refine pure_ (i := 15) (N := some 18) (v := ?_) (a' := ?_) #[true, true, true, true, true, true, true, true, true, true, true, true, true, true, true, true, false] rfl rfl (any_of HT_.out (by kernel_rfl)) (fun _ _ _ h => h) (Or.inl ⟨by rfl, ?_⟩) ?_ ?_
    rotate_left
    ·intro w'
     go_simp
     with_reducible rfl
    rotate_left
    ·simp only [Act.put, p1_, p2_, p3_, i64_w, i32_w]
     rfl
    refine pure_ (i := 16) (N := some 2) (v := ?_) (a' := ?_) #[true, true, true, true, true, true, true, true, true, true, true, true, true, true, true, true, true] rfl rfl (any_of HT_.out (by kernel_rfl)) (fun _ _ _ h => h) (Or.inl ⟨by rfl, ?_⟩) ?_ ?_
    rotate_left
    ·intro w'
     go_simp
     with_reducible rfl
    rotate_left
    ·simp only [Act.put, p1_, p2_, p3_, i64_w, i32_w]
     rfl
    refine done_ (done_of HT_.out (by kernel_rfl)) ?_
    try go_wp2
    go_ret
    exact ⟨by first | rfl | (simp [e1_, e2_] <;> rfl) | (simp [*, e1_, e2_] <;> rfl) | (simp [e3_, e4_]; done) | (simp [*, e3_, e4_]; done), by repeat (first | (with_reducible first | exact HB.out | apply b1_ | apply b2_ | apply b3_ | refine below_set ?_ GE340.out) | exact HB.out)⟩
   ·rw [if_neg c8] at H
    exact absurd H (by simp)
  ·rw [if_neg c6] at H
   exact absurd H (by simp)
 ·rw [if_neg c4] at H
  exact absurd H (by simp)
end Go.Proofs.YtdpdbegglkdgnaaDoor.A
end

section
namespace Go.Proofs.YtdpdbegglkdgnaaDoor.A
open Go.RowKit Go.Proofs.YtdpdbegglkdgnaaDoorW.PrintWords Go.Proofs.YtdpdbegglkdgnaaDoorW.PrintLast Go.Proofs.YtdpdbegglkdgnaaDoorW.PrintMore
/-- Block g holds the words l; they may be written. -/
structure Au (W : World) (g : Nat) (l : List Int) : Prop where
  cell : ∀ j, j < l.length → W.cell? ⟨g, j, none⟩ = some (.int .u32 (l.getD j 0))
  free : ∀ j, j < l.length → W.frozen? ⟨g, j, none⟩ = false
theorem Au.at {W W' : World} {g : Nat} {l : List Int} (h : Au W g l) (e : W'.heap[g]? = W.heap[g]?) : Au W' g l :=
  ⟨fun j hj => (World.cell?_of_block (a := ⟨g, j, none⟩) e).trans (h.cell j hj), fun j hj => (World.frozen?_of_block (a := ⟨g, j, none⟩) e).trans (h.free j hj)⟩
theorem Au.of_row {W : World} {g : Nat} (l : List Int) {e : Nat} (h : W.heap[g]? = some (.cells (l.map (Value.int .u32)).toArray e (0, 0))) : Au W g l := by
  refine ⟨fun j hj => ?_, fun j hj => ?_⟩
  · unfold World.cell?
    rw [h]
    simp [List.getD, List.getElem?_eq_getElem hj]
  · unfold World.frozen?
    rw [h]
    simp
theorem Au.set {W : World} {g : Nat} {l : List Int} (h : Au W g l) (j : Nat) (hj : j < l.length) (x : Int) : Au (W.setCell ⟨g, j, none⟩ (.int .u32 x)) g (l.set j x) := by
  refine ⟨fun i hi => ?_, fun i hi => ?_⟩
  · rw [List.length_set] at hi
    by_cases c : i = j
    · subst c
      rw [World.cell?_setCell_same _ _ _ (h.cell i hi)]
      simp [List.getD, hi]
    · rw [World.cell?_setCell_other _ _ _ _ (by simp <;> omega), h.cell i hi]
      simp [List.getD, List.getElem?_set, Ne.symm c]
  · rw [List.length_set] at hi
    rw [World.frozen?_setCell]
    exact h.free i hi
theorem setCell_old (W : World) (a : Addr) (v : Value) (k : Nat) (hk : k ≠ a.block) : (W.setCell a v).heap[k]? = W.heap[k]? := by
  simp [World.setCell, Array.getElem?_modify, Ne.symm hk]
theorem Au.far {W : World} {g g' : Nat} {l : List Int} (h : Au W g l) (hg : g ≠ g') (j : Nat) (v : Value) : Au (W.setCell ⟨g', j, none⟩ v) g l :=
  h.at (setCell_old W _ v g hg)
theorem Au.drew {W : World} {g : Nat} {l : List Int} (h : Au W g l) : Au W.drew g l := h.at rfl
theorem Au.drewN {W : World} {g : Nat} {l : List Int} (h : Au W g l) (n : Nat) : Au (W.drewN n) g l := h.at rfl
theorem Au.setCells {W : World} {g : Nat} {l : List Int} (h : Au W g l) (l' : List Int) (hl : l'.length = l.length) : Au (W.setCells g 0 (l'.map (Value.int .u32))) g l' := by
  refine ⟨fun j hj => ?_, fun j hj => ?_⟩
  · have := World.cell?_setCells_in g (l'.map (Value.int .u32)) 0 W (fun i hi => by rw [Nat.zero_add, h.cell i (by simpa [hl] using hi)]; rfl) j (by simpa using hj)
    rw [Nat.zero_add] at this
    rw [this]
    simp [List.getD, hj]
  · rw [World.frozen?_setCells]
    exact h.free j (by omega)
/-- What the block's walk keeps: its three arrays behind block n, and what was there. -/
structure Bk (w W : World) (n : Nat) (lh lr lw : List Int) : Prop where
  hh : Au W n lh
  hr : Au W (n + 1) lr
  hw : Au W (n + 2) lw
  below : Below n w W
  size : W.heap.size = n + 3
theorem w64id (x : Int) (h1 : -9223372036854775808 ≤ x) (h2 : x ≤ 9223372036854775807) : IntKind.i64.wrap x = x := by rw [IntKind.wrap_i64]; omega
theorem alloc_at (W : World) (o : Obj) (k : Nat) : (W.alloc o).heap[k]? = if k = W.heap.size then some o else W.heap[k]? := by
  simp [World.alloc, -World.alloc_eq, Array.getElem?_push]
theorem alloc_sz (W : World) (o : Obj) : (W.alloc o).heap.size = W.heap.size + 1 := by simp [World.alloc, -World.alloc_eq]
theorem Bk.start (w : World) (h a b : List Int) (t1 t2 t3 : Nat) :
    Bk w (((w.alloc (.cells (h.map (Value.int .u32)).toArray t1)).alloc (.cells (a.map (Value.int .u32)).toArray t2)).alloc (.cells (b.map (Value.int .u32)).toArray t3)) w.heap.size h a b := by
  refine ⟨Au.of_row (e := t1) _ ?_, Au.of_row (e := t2) _ ?_, Au.of_row (e := t3) _ ?_, ⟨rfl, rfl, rfl, ?_, fun k hk => ?_⟩, ?_⟩
  · rw [alloc_at, alloc_at, alloc_at, alloc_sz, alloc_sz, if_neg (by omega), if_neg (by omega), if_pos rfl]
  · rw [alloc_at, alloc_at, alloc_sz, alloc_sz, if_neg (by omega), if_pos rfl]
  · rw [alloc_at, alloc_sz, alloc_sz, if_pos rfl]
  · rw [alloc_sz, alloc_sz, alloc_sz]; omega
  · rw [alloc_at, alloc_at, alloc_at, alloc_sz, alloc_sz, if_neg (by omega), if_neg (by omega), if_neg (by omega)]
  · rw [alloc_sz, alloc_sz, alloc_sz]
theorem below_drew_h {w W : World} {n : Nat} (h : Below n w W) : Below n w W.drew := ⟨h.os, h.tape, h.output, h.size, h.block⟩
theorem below_set_h {w W : World} {n g j : Nat} {v : Value} (h : Below n w W) (hg : n ≤ g) : Below n w (W.setCell ⟨g, j, none⟩ v) :=
  ⟨h.os, h.tape, h.output, by simpa [World.setCell] using h.size, fun k hk => (setCell_old W _ v k (by dsimp only; omega)).trans (h.block k hk)⟩
/-- A store into the words. -/
theorem Bk.word {w W : World} {n : Nat} {lh lr lw : List Int} (h : Bk w W n lh lr lw) (j : Nat) (hj : j < lw.length) (x : Int) : Bk w (W.setCell ⟨n + 2, j, none⟩ (.int .u32 x)) n lh lr (lw.set j x) :=
  ⟨h.hh.far (by omega) j _, h.hr.far (by omega) j _, h.hw.set j hj x, below_set_h h.below (by omega), by simpa [World.setCell] using h.size⟩
theorem Bk.drew {w W : World} {n : Nat} {lh lr lw : List Int} (h : Bk w W n lh lr lw) : Bk w W.drew n lh lr lw :=
  ⟨h.hh.drew, h.hr.drew, h.hw.drew, below_drew_h h.below, h.size⟩
theorem Bk.old {w W : World} {n : Nat} {lh lr lw : List Int} (h : Bk w W n lh lr lw) {g j : Nat} {v : Value} (hg : g < n) (hc : w.cell? ⟨g, j, none⟩ = some v) : W.cell? ⟨g, j, none⟩ = some v :=
  (World.cell?_of_block (a := ⟨g, j, none⟩) (h.below.block g hg)).trans hc
theorem Bk.drewN {w W : World} {n : Nat} {lh lr lw : List Int} (h : Bk w W n lh lr lw) (m : Nat) : Bk w (W.drewN m) n lh lr lw :=
  ⟨h.hh.drewN m, h.hr.drewN m, h.hw.drewN m, ⟨h.below.os, h.below.tape, h.below.output, h.below.size, h.below.block⟩, h.size⟩
/-- .. with the eight letters behind them. -/
structure Bk2 (w W : World) (n : Nat) (lh lr lw la : List Int) : Prop where
  hh : Au W n lh
  hr : Au W (n + 1) lr
  hw : Au W (n + 2) lw
  ha : Au W (n + 3) la
  below : Below n w W
theorem Bk2.start {w W : World} {n : Nat} {lh lr lw : List Int} (h : Bk w W n lh lr lw) (la : List Int) (t : Nat) : Bk2 w (W.alloc (.cells (la.map (Value.int .u32)).toArray t)) n lh lr lw la := by
  have hs := h.size
  have e : ∀ k, k < n + 3 → (W.alloc (.cells (la.map (Value.int .u32)).toArray t)).heap[k]? = W.heap[k]? := fun k hk => by rw [alloc_at, if_neg (by omega)]
  refine ⟨h.hh.at (e _ (by omega)), h.hr.at (e _ (by omega)), h.hw.at (e _ (by omega)), Au.of_row (e := t) _ ?_, ⟨h.below.os, h.below.tape, h.below.output, ?_, fun k hk => (e k (by omega)).trans (h.below.block k hk)⟩⟩
  · rw [alloc_at, if_pos (by omega)]
  · rw [alloc_sz]; have := h.below.size; omega
theorem Bk2.drewN {w W : World} {n : Nat} {lh lr lw la : List Int} (h : Bk2 w W n lh lr lw la) (m : Nat) : Bk2 w (W.drewN m) n lh lr lw la :=
  ⟨h.hh.drewN m, h.hr.drewN m, h.hw.drewN m, h.ha.drewN m, ⟨h.below.os, h.below.tape, h.below.output, h.below.size, h.below.block⟩⟩
theorem Bk2.drew {w W : World} {n : Nat} {lh lr lw la : List Int} (h : Bk2 w W n lh lr lw la) : Bk2 w W.drew n lh lr lw la :=
  ⟨h.hh.drew, h.hr.drew, h.hw.drew, h.ha.drew, below_drew_h h.below⟩
theorem Bk2.set {w W : World} {n : Nat} {lh lr lw la : List Int} (h : Bk2 w W n lh lr lw la) (j : Nat) (hj : j < la.length) (x : Int) : Bk2 w (W.setCell ⟨n + 3, j, none⟩ (.int .u32 x)) n lh lr lw (la.set j x) :=
  ⟨h.hh.far (by omega) j _, h.hr.far (by omega) j _, h.hw.far (by omega) j _, h.ha.set j hj x, below_set_h h.below (by omega)⟩
theorem Bk2.head {w W : World} {n : Nat} {lh lr lw la : List Int} (h : Bk2 w W n lh lr lw la) (j : Nat) (hj : j < lh.length) (x : Int) : Bk2 w (W.setCell ⟨n, j, none⟩ (.int .u32 x)) n (lh.set j x) lr lw la :=
  ⟨h.hh.set j hj x, h.hr.far (by omega) j _, h.hw.far (by omega) j _, h.ha.far (by omega) j _, below_set_h h.below (by omega)⟩
theorem Bk2.out {w W : World} {n : Nat} {lh lr lw la : List Int} (h : Bk2 w W n lh lr lw la) (j : Nat) (hj : j < lr.length) (x : Int) : Bk2 w (W.setCell ⟨n + 1, j, none⟩ (.int .u32 x)) n lh (lr.set j x) lw la :=
  ⟨h.hh.far (by omega) j _, h.hr.set j hj x, h.hw.far (by omega) j _, h.ha.far (by omega) j _, below_set_h h.below (by omega)⟩
theorem Bk2.old {w W : World} {n : Nat} {lh lr lw la : List Int} (h : Bk2 w W n lh lr lw la) {g j : Nat} {v : Value} (hg : g < n) (hc : w.cell? ⟨g, j, none⟩ = some v) : W.cell? ⟨g, j, none⟩ = some v :=
  (World.cell?_of_block (a := ⟨g, j, none⟩) (h.below.block g hg)).trans hc
/-- Eight words, cell for cell. -/
theorem Au.eight {W : World} {g : Nat} {a0 a1 a2 a3 a4 a5 a6 a7 : Int} (h : Au W g [a0, a1, a2, a3, a4, a5, a6, a7]) :
    (W.cell? ⟨g, 0, none⟩ = some (.int .u32 a0) ∧ W.cell? ⟨g, 1, none⟩ = some (.int .u32 a1) ∧ W.cell? ⟨g, 2, none⟩ = some (.int .u32 a2) ∧ W.cell? ⟨g, 3, none⟩ = some (.int .u32 a3) ∧ W.cell? ⟨g, 4, none⟩ = some (.int .u32 a4) ∧ W.cell? ⟨g, 5, none⟩ = some (.int .u32 a5) ∧ W.cell? ⟨g, 6, none⟩ = some (.int .u32 a6) ∧ W.cell? ⟨g, 7, none⟩ = some (.int .u32 a7)) ∧
    (W.frozen? ⟨g, 0, none⟩ = false ∧ W.frozen? ⟨g, 1, none⟩ = false ∧ W.frozen? ⟨g, 2, none⟩ = false ∧ W.frozen? ⟨g, 3, none⟩ = false ∧ W.frozen? ⟨g, 4, none⟩ = false ∧ W.frozen? ⟨g, 5, none⟩ = false ∧ W.frozen? ⟨g, 6, none⟩ = false ∧ W.frozen? ⟨g, 7, none⟩ = false) :=
  ⟨⟨h.cell 0 (by simp), h.cell 1 (by simp), h.cell 2 (by simp), h.cell 3 (by simp), h.cell 4 (by simp), h.cell 5 (by simp), h.cell 6 (by simp), h.cell 7 (by simp)⟩,
   ⟨h.free 0 (by simp), h.free 1 (by simp), h.free 2 (by simp), h.free 3 (by simp), h.free 4 (by simp), h.free 5 (by simp), h.free 6 (by simp), h.free 7 (by simp)⟩⟩
theorem eight {l : List Int} (h : l.length = 8) : ∃ a0 a1 a2 a3 a4 a5 a6 a7, l = [a0, a1, a2, a3, a4, a5, a6, a7] := by
  match l, h with
  | [a0, a1, a2, a3, a4, a5, a6, a7], _ => exact ⟨a0, a1, a2, a3, a4, a5, a6, a7, rfl⟩
theorem u32w_h (x : Int) : IntKind.u32.wrap x = x % 4294967296 := by unfold IntKind.wrap; simp [IntKind.bits, IntKind.signed]
theorem or_comm_h (k : IntKind) (x y : Int) : Go.bits .or k x y = Go.bits .or k y x := by
  unfold Go.bits
  simp only [BitVec.or_comm]
/-- What a turn answers. -/
def turnH (x n : Int) : Int := Go.bits .or .u32 (shr .u32 x n) (shl .u32 x (32 - n))
theorem sturn2 (x : Int) : spec_l01Turn.f x 2 = some (turnH x 2) := by
  unfold spec_l01Turn.f
  rw [if_pos (by decide), show IntKind.u64.wrap (32 - 2) = 30 from by kernel_rfl, if_pos (by decide)]
  rfl
theorem sturn6 (x : Int) : spec_l01Turn.f x 6 = some (turnH x 6) := by
  unfold spec_l01Turn.f
  rw [if_pos (by decide), show IntKind.u64.wrap (32 - 6) = 26 from by kernel_rfl, if_pos (by decide)]
  rfl
theorem sturn7 (x : Int) : spec_l01Turn.f x 7 = some (turnH x 7) := by
  unfold spec_l01Turn.f
  rw [if_pos (by decide), show IntKind.u64.wrap (32 - 7) = 25 from by kernel_rfl, if_pos (by decide)]
  rfl
theorem sturn11 (x : Int) : spec_l01Turn.f x 11 = some (turnH x 11) := by
  unfold spec_l01Turn.f
  rw [if_pos (by decide), show IntKind.u64.wrap (32 - 11) = 21 from by kernel_rfl, if_pos (by decide)]
  rfl
theorem sturn13 (x : Int) : spec_l01Turn.f x 13 = some (turnH x 13) := by
  unfold spec_l01Turn.f
  rw [if_pos (by decide), show IntKind.u64.wrap (32 - 13) = 19 from by kernel_rfl, if_pos (by decide)]
  rfl
theorem sturn17 (x : Int) : spec_l01Turn.f x 17 = some (turnH x 17) := by
  unfold spec_l01Turn.f
  rw [if_pos (by decide), show IntKind.u64.wrap (32 - 17) = 15 from by kernel_rfl, if_pos (by decide)]
  rfl
theorem sturn18 (x : Int) : spec_l01Turn.f x 18 = some (turnH x 18) := by
  unfold spec_l01Turn.f
  rw [if_pos (by decide), show IntKind.u64.wrap (32 - 18) = 14 from by kernel_rfl, if_pos (by decide)]
  rfl
theorem sturn19 (x : Int) : spec_l01Turn.f x 19 = some (turnH x 19) := by
  unfold spec_l01Turn.f
  rw [if_pos (by decide), show IntKind.u64.wrap (32 - 19) = 13 from by kernel_rfl, if_pos (by decide)]
  rfl
theorem sturn22 (x : Int) : spec_l01Turn.f x 22 = some (turnH x 22) := by
  unfold spec_l01Turn.f
  rw [if_pos (by decide), show IntKind.u64.wrap (32 - 22) = 10 from by kernel_rfl, if_pos (by decide)]
  rfl
theorem sturn25 (x : Int) : spec_l01Turn.f x 25 = some (turnH x 25) := by
  unfold spec_l01Turn.f
  rw [if_pos (by decide), show IntKind.u64.wrap (32 - 25) = 7 from by kernel_rfl, if_pos (by decide)]
  rfl
set_option maxHeartbeats 8000000 in
set_option maxRecDepth 100000 in
theorem sturn_same (a0 : Int) (a1 : Int) (r : Int) (w : World) (h : spec_l01Turn.f a0 a1 = some r) :
    Calls Tryd.prog 133 #[.int .u32 a0, .int .u64 a1] w fun e w' => e = .returned (.int .u32 r) ∧ w' = w := by
  have H : (if 0 ≤ a1 then (if 0 ≤ (IntKind.u64.wrap (32 - a1)) then (some (Go.bits .or .u32 (shr .u32 a0 a1) (shl .u32 a0 (IntKind.u64.wrap (32 - a1))))) else (none)) else (none)) = some r := h
  clear h
  by_cases c3 : 0 ≤ a1
  · rw [if_pos c3] at H
    have c3b0 := eq_true c3
    have c3b1 : decide (0 ≤ a1) = true := decide_eq_true c3
    clear c3
    obtain ⟨ji4, hji4⟩ : ∃ j_ : Int, (shr .u32 a0 a1) = j_ := ⟨_, rfl⟩
    replace H : (if 0 ≤ (IntKind.u64.wrap (32 - a1)) then (some (Go.bits .or .u32 (ji4) (shl .u32 a0 (IntKind.u64.wrap (32 - a1))))) else (none)) = some r := by first | (rw [hji4] at H; exact H) | (simp only [hji4] at H ⊢; exact H)
    have hji4_ : (a0 / 2 ^ min a1.toNat 32) = ji4 := hji4
    have hji4z : a1 ≤ 32 → (a0 / 2 ^ a1.toNat) = ji4 := shr_small hji4
    obtain ⟨ji5, hji5⟩ : ∃ j_ : Int, (IntKind.u64.wrap (32 - a1)) = j_ := ⟨_, rfl⟩
    replace H : (if 0 ≤ (ji5) then (some (Go.bits .or .u32 (ji4) (shl .u32 a0 (ji5)))) else (none)) = some r := by first | (rw [hji5] at H; exact H) | (simp only [hji5] at H ⊢; exact H)
    by_cases c6 : 0 ≤ (ji5)
    · rw [if_pos c6] at H
      have c6b0 := eq_true c6
      have c6b1 : decide (0 ≤ (ji5)) = true := decide_eq_true c6
      clear c6
      obtain ⟨ji7, hji7⟩ : ∃ j_ : Int, (shl .u32 a0 (ji5)) = j_ := ⟨_, rfl⟩
      replace H : (some (Go.bits .or .u32 (ji4) (ji7))) = some r := by first | (rw [hji7] at H; exact H) | (simp only [hji7] at H ⊢; exact H)
      have hji7_ : (IntKind.u32.wrap (a0 * 2 ^ min (ji5).toNat 32)) = ji7 := hji7
      have hji7z : (ji5) ≤ 32 → (IntKind.u32.wrap (a0 * 2 ^ (ji5).toNat)) = ji7 := shl_small hji7
      obtain rfl := Option.some.inj H
      go_enter Tryd.func133, Tryd.ntmps133
      go_wp2
      go_ret
      exact ⟨by first | rfl | (simp; done) | (simp only [← hji4, ← hji5, ← hji7] <;> (first | rfl | simp)) | (simp [*]; done), rfl⟩
    · rw [if_neg c6] at H
      exact absurd H (by simp)
  · rw [if_neg c3] at H
    exact absurd H (by simp)
theorem stn2 (x : Int) (w : World) : Calls Tryd.prog 133 #[.int .u32 x, .int .u64 2] w fun e w' => e = .returned (.int .u32 (turnH x 2)) ∧ w' = w := sturn_same x 2 _ w (sturn2 x)
theorem stn6 (x : Int) (w : World) : Calls Tryd.prog 133 #[.int .u32 x, .int .u64 6] w fun e w' => e = .returned (.int .u32 (turnH x 6)) ∧ w' = w := sturn_same x 6 _ w (sturn6 x)
theorem stn7 (x : Int) (w : World) : Calls Tryd.prog 133 #[.int .u32 x, .int .u64 7] w fun e w' => e = .returned (.int .u32 (turnH x 7)) ∧ w' = w := sturn_same x 7 _ w (sturn7 x)
theorem stn11 (x : Int) (w : World) : Calls Tryd.prog 133 #[.int .u32 x, .int .u64 11] w fun e w' => e = .returned (.int .u32 (turnH x 11)) ∧ w' = w := sturn_same x 11 _ w (sturn11 x)
theorem stn13 (x : Int) (w : World) : Calls Tryd.prog 133 #[.int .u32 x, .int .u64 13] w fun e w' => e = .returned (.int .u32 (turnH x 13)) ∧ w' = w := sturn_same x 13 _ w (sturn13 x)
theorem stn17 (x : Int) (w : World) : Calls Tryd.prog 133 #[.int .u32 x, .int .u64 17] w fun e w' => e = .returned (.int .u32 (turnH x 17)) ∧ w' = w := sturn_same x 17 _ w (sturn17 x)
theorem stn18 (x : Int) (w : World) : Calls Tryd.prog 133 #[.int .u32 x, .int .u64 18] w fun e w' => e = .returned (.int .u32 (turnH x 18)) ∧ w' = w := sturn_same x 18 _ w (sturn18 x)
theorem stn19 (x : Int) (w : World) : Calls Tryd.prog 133 #[.int .u32 x, .int .u64 19] w fun e w' => e = .returned (.int .u32 (turnH x 19)) ∧ w' = w := sturn_same x 19 _ w (sturn19 x)
theorem stn22 (x : Int) (w : World) : Calls Tryd.prog 133 #[.int .u32 x, .int .u64 22] w fun e w' => e = .returned (.int .u32 (turnH x 22)) ∧ w' = w := sturn_same x 22 _ w (sturn22 x)
theorem stn25 (x : Int) (w : World) : Calls Tryd.prog 133 #[.int .u32 x, .int .u64 25] w fun e w' => e = .returned (.int .u32 (turnH x 25)) ∧ w' = w := sturn_same x 25 _ w (sturn25 x)
theorem w64n (x : Int) (h1 : -9223372036854775808 ≤ x) (h2 : x ≤ 9223372036854775807) : wrap64 x = x := (i64_w x).symm.trans (w64id x h1 h2)
def word4 (x0 x1 x2 x3 : Int) : Int := Go.bits .or .u32 (Go.bits .or .u32 (Go.bits .or .u32 (IntKind.u32.wrap (IntKind.u32.wrap x0 * 16777216)) (IntKind.u32.wrap (IntKind.u32.wrap x1 * 65536))) (IntKind.u32.wrap (IntKind.u32.wrap x2 * 256))) (IntKind.u32.wrap x3)
theorem step0 (h bs ks ws : List Int) (i : Nat) (r : List Int) (hb : bs.length = 64) (hw : ws.length = 64) (hi : i < 16) (H : spec_l01Block.lv0 h bs ks ws i = some r) :
    spec_l01Block.lv0 h bs ks (ws.set i (word4 (bs.getD (4 * i) 0) (bs.getD (4 * i + 1) 0) (bs.getD (4 * i + 2) 0) (bs.getD (4 * i + 3) 0))) ((i + 1 : Nat) : Int) = some r := by
  have c1 : (i : Int) < 16 := by omega
  have c2 : (0 : Int) ≤ 4 * (i : Int) := by omega
  have c3 : 4 * (i : Int) < (bs.length : Int) := by omega
  have c4 : (0 : Int) ≤ 4 * (i : Int) + 1 := by omega
  have c5 : 4 * (i : Int) + 1 < (bs.length : Int) := by omega
  have c6 : (0 : Int) ≤ 4 * (i : Int) + 2 := by omega
  have c7 : 4 * (i : Int) + 2 < (bs.length : Int) := by omega
  have c8 : (0 : Int) ≤ 4 * (i : Int) + 3 := by omega
  have c9 : 4 * (i : Int) + 3 < (bs.length : Int) := by omega
  have d1 : (0 : Int) ≤ (i : Int) := by omega
  have d2 : (i : Int) < (ws.length : Int) := by omega
  have e0 : (4 * (i : Int)).toNat = 4 * i := by omega
  have e1 : (4 * (i : Int) + 1).toNat = 4 * i + 1 := by omega
  have e2 : (4 * (i : Int) + 2).toNat = 4 * i + 2 := by omega
  have e3 : (4 * (i : Int) + 3).toNat = 4 * i + 3 := by omega
  have w : wrap64 ((i : Int) + 1) = ((i + 1 : Nat) : Int) := by rw [w64n _ (by omega) (by omega)]; omega
  have w0 : wrap64 (4 * (i : Int)) = 4 * (i : Int) := w64n _ (by omega) (by omega)
  have w1 : wrap64 (4 * (i : Int) + 1) = 4 * (i : Int) + 1 := w64n _ (by omega) (by omega)
  have w2 : wrap64 (4 * (i : Int) + 2) = 4 * (i : Int) + 2 := w64n _ (by omega) (by omega)
  have w3 : wrap64 (4 * (i : Int) + 3) = 4 * (i : Int) + 3 := w64n _ (by omega) (by omega)
  rw [spec_l01Block.lv0_eq] at H
  simp only [w, w0, w1, w2, w3, if_pos c1, if_pos c2, if_pos c3, if_pos c4, if_pos c5, if_pos c6, if_pos c7, if_pos c8, if_pos c9, if_pos d1, if_pos d2, rd, e0, e1, e2, e3, Int.toNat_natCast] at H
  simpa only [word4, u32w_h] using H
theorem exit0 (h bs ks ws : List Int) (r : List Int) (i : Int) (hi : ¬ i < 16) (H : spec_l01Block.lv0 h bs ks ws i = some r) : spec_l01Block.lv1 h ks ws ((16 : Nat) : Int) = some r := by
  rw [spec_l01Block.lv0_eq, if_neg hi] at H
  rw [show ((16 : Nat) : Int) = 16 from rfl]
  exact H
def wordX (a b c d : Int) : Int := (a + b + c + d) % 4294967296
def sig (x p q s : Int) : Int := Go.bits .xor .u32 (Go.bits .xor .u32 (turnH x p) (turnH x q)) s
theorem sub_nat (i k : Nat) (h : k ≤ i) : ((i : Int) - (k : Int)).toNat = i - k := by omega
theorem wsub (i k : Nat) (hk : k ≤ i) (hi : i ≤ 64) : wrap64 ((i : Int) - (k : Int)) = (i : Int) - (k : Int) := w64n _ (by omega) (by omega)
theorem wadd (i : Nat) (hi : i ≤ 64) : wrap64 ((i : Int) + 1) = ((i + 1 : Nat) : Int) := by rw [w64n _ (by omega) (by omega)]; omega
theorem step1 (h ks ws : List Int) (i : Nat) (r : List Int) (hw : ws.length = 64) (h16 : 16 ≤ i) (hi : i < 64) (H : spec_l01Block.lv1 h ks ws i = some r) :
    spec_l01Block.lv1 h ks (ws.set i (wordX (ws.getD (i - 16) 0) (sig (ws.getD (i - 15) 0) 7 18 (ws.getD (i - 15) 0 / 8)) (ws.getD (i - 7) 0) (sig (ws.getD (i - 2) 0) 17 19 (ws.getD (i - 2) 0 / 1024)))) ((i + 1 : Nat) : Int) = some r := by
  have g1 : 15 ≤ i := by omega
  have g2 : 2 ≤ i := by omega
  have g3 : 7 ≤ i := by omega
  have g4 : i ≤ 64 := by omega
  have c1 : (i : Int) < 64 := by omega
  have c2 : (0 : Int) ≤ (i : Int) - 15 := by omega
  have c3 : (i : Int) - 15 < (ws.length : Int) := by omega
  have c4 : (0 : Int) ≤ (i : Int) - 2 := by omega
  have c5 : (i : Int) - 2 < (ws.length : Int) := by omega
  have c6 : (0 : Int) ≤ (i : Int) - 16 := by omega
  have c7 : (i : Int) - 16 < (ws.length : Int) := by omega
  have c8 : (0 : Int) ≤ (i : Int) - 7 := by omega
  have c9 : (i : Int) - 7 < (ws.length : Int) := by omega
  have d1 : (0 : Int) ≤ (i : Int) := by omega
  have d2 : (i : Int) < (ws.length : Int) := by omega
  have e0 : ((i : Int) - 15).toNat = i - 15 := sub_nat i 15 g1
  have e1 : ((i : Int) - 2).toNat = i - 2 := sub_nat i 2 g2
  have e2 : ((i : Int) - 16).toNat = i - 16 := sub_nat i 16 h16
  have e3 : ((i : Int) - 7).toNat = i - 7 := sub_nat i 7 g3
  have w : wrap64 ((i : Int) + 1) = ((i + 1 : Nat) : Int) := wadd i g4
  have w1 : wrap64 ((i : Int) - 15) = (i : Int) - 15 := wsub i 15 g1 g4
  have w2 : wrap64 ((i : Int) - 2) = (i : Int) - 2 := wsub i 2 g2 g4
  have w3 : wrap64 ((i : Int) - 16) = (i : Int) - 16 := wsub i 16 h16 g4
  have w4 : wrap64 ((i : Int) - 7) = (i : Int) - 7 := wsub i 7 g3 g4
  rw [spec_l01Block.lv1_eq] at H
  simp only [w, w1, w2, w3, w4, if_pos c1, if_pos c2, if_pos c3, if_pos c4, if_pos c5, if_pos c6, if_pos c7, if_pos c8, if_pos c9, if_pos d1, if_pos d2, spec_l01Turn.v, sturn7, sturn18, sturn17, sturn19, Option.bind_some, rd, e0, e1, e2, e3, Int.toNat_natCast] at H
  simpa only [wordX, sig, u32w_h, Int.emod_add_emod] using H
theorem exit1 (h ks ws : List Int) (r : List Int) (hh : h.length = 8) (i : Int) (hi : ¬ i < 64) (H : spec_l01Block.lv1 h ks ws i = some r) : spec_l01Block.lv2 h ks ws h ((0 : Nat) : Int) = some r := by
  rw [spec_l01Block.lv1_eq, if_neg hi, Option.bind_some, if_pos (by simp; omega), List.nil_append] at H
  rw [show ((0 : Nat) : Int) = 0 from rfl]
  exact H
theorem ch_bv (n : Nat) (o e f g : BitVec n) (ho : o = BitVec.allOnes n) : (e &&& f) ^^^ ((o ^^^ e) &&& g) = (e &&& f) ||| ((o ^^^ e) &&& g) := by
  subst ho
  apply BitVec.eq_of_getLsbD_eq
  intro j hj
  simp only [BitVec.getLsbD_xor, BitVec.getLsbD_and, BitVec.getLsbD_or, BitVec.getLsbD_allOnes, hj, decide_true]
  cases e.getLsbD j <;> cases f.getLsbD j <;> cases g.getLsbD j <;> rfl
theorem bits_of (b : BitVec IntKind.u32.bits) : BitVec.ofInt IntKind.u32.bits (IntKind.u32.wrap (b.toNat : Int)) = b := by
  have := b.isLt
  rw [show (2 ^ IntKind.u32.bits : Nat) = 4294967296 from rfl] at this
  rw [u32w_h, Int.emod_eq_of_lt (by omega) (by omega)]
  simp
theorem and_back (x y : Int) : BitVec.ofInt IntKind.u32.bits (Go.bits .and .u32 x y) = BitVec.ofInt IntKind.u32.bits x &&& BitVec.ofInt IntKind.u32.bits y := bits_of _
theorem xor_back (x y : Int) : BitVec.ofInt IntKind.u32.bits (Go.bits .xor .u32 x y) = BitVec.ofInt IntKind.u32.bits x ^^^ BitVec.ofInt IntKind.u32.bits y := bits_of _
theorem ch_eq (e f g : Int) : Go.bits .xor .u32 (Go.bits .and .u32 e f) (Go.bits .and .u32 (Go.bits .xor .u32 4294967295 e) g) = Go.bits .or .u32 (Go.bits .and .u32 e f) (Go.bits .and .u32 (Go.bits .xor .u32 4294967295 e) g) := by
  have h : ∀ x y : Int, BitVec.ofInt IntKind.u32.bits x ^^^ BitVec.ofInt IntKind.u32.bits y = BitVec.ofInt IntKind.u32.bits x ||| BitVec.ofInt IntKind.u32.bits y → Go.bits .xor .u32 x y = Go.bits .or .u32 x y := by
    intro x y h
    show IntKind.u32.wrap ((BitVec.ofInt IntKind.u32.bits x ^^^ BitVec.ofInt IntKind.u32.bits y).toNat : Int) = IntKind.u32.wrap ((BitVec.ofInt IntKind.u32.bits x ||| BitVec.ofInt IntKind.u32.bits y).toNat : Int)
    rw [h]
  apply h
  rw [and_back, and_back, xor_back]
  exact ch_bv _ _ _ _ _ (by decide)
def pF (a7 e f g k x : Int) : Int := (a7 + sig e 6 11 (turnH e 25) + Go.bits .or .u32 (Go.bits .and .u32 e f) (Go.bits .and .u32 (Go.bits .xor .u32 4294967295 e) g) + k + x)
def qF (a b c : Int) : Int := (sig a 2 13 (turnH a 22) + Go.bits .xor .u32 (Go.bits .xor .u32 (Go.bits .and .u32 a b) (Go.bits .and .u32 a c)) (Go.bits .and .u32 b c))
theorem step2 (h ks ws : List Int) (a0 a1 a2 a3 a4 a5 a6 a7 : Int) (i : Nat) (r : List Int) (hw : ws.length = 64) (hk : ks.length = 64) (hi : i < 64) (H : spec_l01Block.lv2 h ks ws [a0, a1, a2, a3, a4, a5, a6, a7] i = some r) :
    spec_l01Block.lv2 h ks ws [(pF a7 a4 a5 a6 (ks.getD i 0) (ws.getD i 0) + qF a0 a1 a2) % 4294967296, a0, a1, a2, (a3 + pF a7 a4 a5 a6 (ks.getD i 0) (ws.getD i 0)) % 4294967296, a4, a5, a6] ((i + 1 : Nat) : Int) = some r := by
  have c1 : (i : Int) < 64 := by omega
  have c7 : (0 : Int) ≤ (i : Int) := by omega
  have c8 : (i : Int) < (ks.length : Int) := by omega
  have c9 : (i : Int) < (ws.length : Int) := by omega
  have w : wrap64 ((i : Int) + 1) = ((i + 1 : Nat) : Int) := wadd i (by omega)
  have l : ([a0, a1, a2, a3, a4, a5, a6, a7] : List Int).length = 8 := rfl
  rw [spec_l01Block.lv2_eq] at H
  have k0 : (4 : Int) < ((8 : Nat) : Int) := by decide
  have k1 : (0 : Int) < ((8 : Nat) : Int) := by decide
  have k2 : (7 : Int) < ((8 : Nat) : Int) := by decide
  have k3 : (5 : Int) < ((8 : Nat) : Int) := by decide
  have k4 : (6 : Int) < ((8 : Nat) : Int) := by decide
  have k5 : (1 : Int) < ((8 : Nat) : Int) := by decide
  have k6 : (2 : Int) < ((8 : Nat) : Int) := by decide
  have k7 : (3 : Int) < ((8 : Nat) : Int) := by decide
  have r0 : rd [a0, a1, a2, a3, a4, a5, a6, a7] 0 = a0 := rfl
  have r1 : rd [a0, a1, a2, a3, a4, a5, a6, a7] 1 = a1 := rfl
  have r2 : rd [a0, a1, a2, a3, a4, a5, a6, a7] 2 = a2 := rfl
  have r3 : rd [a0, a1, a2, a3, a4, a5, a6, a7] 3 = a3 := rfl
  have r4 : rd [a0, a1, a2, a3, a4, a5, a6, a7] 4 = a4 := rfl
  have r5 : rd [a0, a1, a2, a3, a4, a5, a6, a7] 5 = a5 := rfl
  have r6 : rd [a0, a1, a2, a3, a4, a5, a6, a7] 6 = a6 := rfl
  have r7 : rd [a0, a1, a2, a3, a4, a5, a6, a7] 7 = a7 := rfl
  have rk : rd ks (i : Int) = ks.getD i 0 := by simp [rd]
  have rw_ : rd ws (i : Int) = ws.getD i 0 := by simp [rd]
  simp only [l, w, r0, r1, r2, r3, r4, r5, r6, r7, rk, rw_, if_pos c1, if_pos c7, if_pos c8, if_pos c9, if_pos k0, if_pos k1, if_pos k2, if_pos k3, if_pos k4, if_pos k5, if_pos k6, if_pos k7, spec_l01Turn.v, sturn6, sturn11, sturn25, sturn2, sturn13, sturn22, Option.bind_some, ch_eq] at H
  simpa only [pF, qF, sig, u32w_h, Int.emod_add_emod, Int.add_emod_emod] using H
theorem u32max_h : IntKind.u32.max = 4294967295 := by decide
def pW (a7 e f g k x : Int) : Int := IntKind.u32.wrap (IntKind.u32.wrap (IntKind.u32.wrap (IntKind.u32.wrap (a7 + sig e 6 11 (turnH e 25)) + Go.bits .or .u32 (Go.bits .and .u32 e f) (Go.bits .and .u32 (Go.bits .xor .u32 IntKind.u32.max e) g)) + k) + x)
def qW (a b c : Int) : Int := IntKind.u32.wrap (sig a 2 13 (turnH a 22) + Go.bits .xor .u32 (Go.bits .xor .u32 (Go.bits .and .u32 a b) (Go.bits .and .u32 a c)) (Go.bits .and .u32 b c))
theorem step2w (h ks ws : List Int) (a0 a1 a2 a3 a4 a5 a6 a7 : Int) (i : Nat) (r : List Int) (hw : ws.length = 64) (hk : ks.length = 64) (hi : i < 64) (xk xw xp xq : Int) (hxk : ks.getD i 0 = xk) (hxw : ws.getD i 0 = xw) (hp : pW a7 a4 a5 a6 xk xw = xp) (hq : qW a0 a1 a2 = xq) (H : spec_l01Block.lv2 h ks ws [a0, a1, a2, a3, a4, a5, a6, a7] i = some r) :
    spec_l01Block.lv2 h ks ws [(xp + xq) % 4294967296, a0, a1, a2, (a3 + xp) % 4294967296, a4, a5, a6] ((i + 1 : Nat) : Int) = some r := by
  have := step2 h ks ws a0 a1 a2 a3 a4 a5 a6 a7 i r hw hk hi H
  rw [hxk, hxw] at this
  rw [← this, ← hp, ← hq]
  simp only [pW, qW, pF, qF, u32w_h, u32max_h, Int.emod_add_emod, Int.add_emod_emod]
def pX (a7 e f g k x : Int) : Int := IntKind.u32.wrap (IntKind.u32.wrap (IntKind.u32.wrap (IntKind.u32.wrap (a7 + sig e 6 11 (turnH e 25)) + Go.bits .xor .u32 (Go.bits .and .u32 e f) (Go.bits .and .u32 (Go.bits .xor .u32 IntKind.u32.max e) g)) + k) + x)
theorem pX_eq (a7 e f g k x : Int) : pX a7 e f g k x = pW a7 e f g k x := by
  unfold pX pW
  rw [u32max_h, ch_eq]
theorem exit2 (h ks ws v : List Int) (r : List Int) (i : Int) (hi : ¬ i < 64) (H : spec_l01Block.lv2 h ks ws v i = some r) : spec_l01Block.lv3 h v ((0 : Nat) : Int) = some r := by
  rw [spec_l01Block.lv2_eq, if_neg hi] at H
  rw [show ((0 : Nat) : Int) = 0 from rfl]
  exact H
theorem step3 (h v : List Int) (i : Nat) (r : List Int) (hh : h.length = 8) (hv : v.length = 8) (hi : i < 8) (H : spec_l01Block.lv3 h v i = some r) :
    spec_l01Block.lv3 (h.set i (IntKind.u32.wrap (h.getD i 0 + v.getD i 0))) v ((i + 1 : Nat) : Int) = some r := by
  have g0 : (i : Int) < 8 := by omega
  have g1 : (0 : Int) ≤ i := by omega
  have g2 : (i : Int) < (h.length : Int) := by omega
  have g3 : (i : Int) < (v.length : Int) := by omega
  have w : wrap64 ((i : Int) + 1) = ((i + 1 : Nat) : Int) := wadd i (by omega)
  have r0 : rd h (i : Int) = h.getD i 0 := by simp [rd]
  have r1 : rd v (i : Int) = v.getD i 0 := by simp [rd]
  rw [spec_l01Block.lv3_eq, w, if_pos g0, if_pos g1, if_pos g2, if_pos g3, r0, r1] at H
  simpa only [u32w_h, Int.toNat_natCast] using H
theorem exit3 (h v : List Int) (r : List Int) (i : Int) (hi : ¬ i < 8) (H : spec_l01Block.lv3 h v i = some r) : h = r := by
  rw [spec_l01Block.lv3_eq, if_neg hi] at H
  exact Option.some.inj H
theorem start0 (h bs ks : List Int) (r : List Int) (H : spec_l01Block.v h bs ks = some r) : spec_l01Block.lv0 h bs ks (List.replicate 64 0) ((0 : Nat) : Int) = some r := by
  rw [spec_l01Block.v_eq] at H
  split at H
  · rw [if_pos (by omega)] at H
    rw [show ((0 : Nat) : Int) = 0 from rfl]
    exact H
  · cases H
set_option maxHeartbeats 8000000 in
set_option maxRecDepth 100000 in
theorem rot_same (a0 : Int) (a1 : Int) (r : Int) (w : World) (h : bits_RotateLeft32.f a0 a1 = some r) :
    Calls Tryd.prog 141 #[.int .u32 a0, .int .i64 a1] w fun e w' => e = .returned (.int .u32 r) ∧ w' = w := by
  have H : (if 0 ≤ (Go.bits .and .u64 (IntKind.u64.wrap (a1)) 31) then (if 0 ≤ (IntKind.u64.wrap (32 - (Go.bits .and .u64 (IntKind.u64.wrap (a1)) 31))) then (some (Go.bits .or .u32 (shl .u32 a0 (Go.bits .and .u64 (IntKind.u64.wrap (a1)) 31)) (shr .u32 a0 (IntKind.u64.wrap (32 - (Go.bits .and .u64 (IntKind.u64.wrap (a1)) 31)))))) else (none)) else (none)) = some r := h
  clear h
  obtain ⟨ji3, hji3⟩ : ∃ j_ : Int, (Go.bits .and .u64 (IntKind.u64.wrap (a1)) 31) = j_ := ⟨_, rfl⟩
  replace H : (if 0 ≤ (ji3) then (if 0 ≤ (IntKind.u64.wrap (32 - (ji3))) then (some (Go.bits .or .u32 (shl .u32 a0 (ji3)) (shr .u32 a0 (IntKind.u64.wrap (32 - (ji3)))))) else (none)) else (none)) = some r := by first | (rw [hji3] at H; exact H) | (simp only [hji3] at H ⊢; exact H)
  by_cases c4 : 0 ≤ (ji3)
  · rw [if_pos c4] at H
    have c4b0 := eq_true c4
    have c4b1 : decide (0 ≤ (ji3)) = true := decide_eq_true c4
    clear c4
    obtain ⟨ji5, hji5⟩ : ∃ j_ : Int, (shl .u32 a0 (ji3)) = j_ := ⟨_, rfl⟩
    replace H : (if 0 ≤ (IntKind.u64.wrap (32 - (ji3))) then (some (Go.bits .or .u32 (ji5) (shr .u32 a0 (IntKind.u64.wrap (32 - (ji3)))))) else (none)) = some r := by first | (rw [hji5] at H; exact H) | (simp only [hji5] at H ⊢; exact H)
    have hji5_ : (IntKind.u32.wrap (a0 * 2 ^ min (ji3).toNat 32)) = ji5 := hji5
    have hji5z : (ji3) ≤ 32 → (IntKind.u32.wrap (a0 * 2 ^ (ji3).toNat)) = ji5 := shl_small hji5
    obtain ⟨ji6, hji6⟩ : ∃ j_ : Int, (IntKind.u64.wrap (32 - (ji3))) = j_ := ⟨_, rfl⟩
    replace H : (if 0 ≤ (ji6) then (some (Go.bits .or .u32 (ji5) (shr .u32 a0 (ji6)))) else (none)) = some r := by first | (rw [hji6] at H; exact H) | (simp only [hji6] at H ⊢; exact H)
    by_cases c7 : 0 ≤ (ji6)
    · rw [if_pos c7] at H
      have c7b0 := eq_true c7
      have c7b1 : decide (0 ≤ (ji6)) = true := decide_eq_true c7
      clear c7
      obtain ⟨ji8, hji8⟩ : ∃ j_ : Int, (shr .u32 a0 (ji6)) = j_ := ⟨_, rfl⟩
      replace H : (some (Go.bits .or .u32 (ji5) (ji8))) = some r := by first | (rw [hji8] at H; exact H) | (simp only [hji8] at H ⊢; exact H)
      have hji8_ : (a0 / 2 ^ min (ji6).toNat 32) = ji8 := hji8
      have hji8z : (ji6) ≤ 32 → (a0 / 2 ^ (ji6).toNat) = ji8 := shr_small hji8
      obtain rfl := Option.some.inj H
      go_enter Tryd.func141, Tryd.ntmps141
      go_wp2
      go_ret
      exact ⟨by first | rfl | (simp; done) | (simp only [← hji3, ← hji5, ← hji6, ← hji8] <;> (first | rfl | simp)) | (simp [*]; done), rfl⟩
    · rw [if_neg c7] at H
      exact absurd H (by simp)
  · rw [if_neg c4] at H
    exact absurd H (by simp)
set_option maxHeartbeats 8000000 in
set_option maxRecDepth 100000 in
theorem turned_same (a0 : Int) (a1 : Int) (r : Int) (w : World) (h : impl_turned.f a0 a1 = some r) :
    Calls Tryd.prog 134 #[.int .u32 a0, .int .i64 a1] w fun e w' => e = .returned (.int .u32 r) ∧ w' = w := by
  have H : ((bits_RotateLeft32.f a0 (wrap64 (-a1))).bind fun t209 => (some t209)) = some r := h
  clear h
  replace H := Option.bind_eq_some_iff.mp H
  obtain ⟨t209, A30, H⟩ := H
  replace H : (some t209) = some r := H
  have A3 := Aside0.mk A30
  clear A30
  obtain rfl := Option.some.inj H
  go_enter Tryd.func134, Tryd.ntmps134
  go_wp2_with (first | ((with_reducible refine gate_callee (f := 141) rfl ?_); refine goesL_ (some 8) rfl rfl Tryd.func141 (by kernel_rfl) rfl #[.int .u32 a0, .int .i64 (wrap64 (-a1))] rfl (by (try simp only [List.map_toArray, List.map_cons, List.map_nil]); first | done | rfl | (simp only [List.length_drop, List.length_take]; rfl)) ?_; (with_reducible refine (rot_same a0 (wrap64 (-a1)) t209 _ A3.out).mono ?_); rintro e w' ⟨rfl, rfl⟩; refine ⟨_, rfl, ?_⟩))
  go_ret
  exact ⟨by first | rfl | (simp; done) | (simp [*]; done), rfl⟩
theorem turned_f (x n s : Int) (h1 : Go.bits .and .u64 (IntKind.u64.wrap (wrap64 (-n))) 31 = s) (h2 : IntKind.u64.wrap (32 - s) = n) (h3 : 32 - n = s) (h4 : 0 ≤ s) (h5 : 0 ≤ n) : impl_turned.f x n = some (turnH x n) := by
  unfold impl_turned.f bits_RotateLeft32.f
  rw [h1, h2, if_pos h4, if_pos h5, Option.bind_some, turnH, or_comm_h, h3]
theorem turned_at (x n s : Int) (w : World) (h1 : Go.bits .and .u64 (IntKind.u64.wrap (wrap64 (-n))) 31 = s) (h2 : IntKind.u64.wrap (32 - s) = n) (h3 : 32 - n = s) (h4 : 0 ≤ s) (h5 : 0 ≤ n) :
    Calls Tryd.prog 134 #[.int .u32 x, .int .i64 n] w fun e w' => e = .returned (.int .u32 (turnH x n)) ∧ w' = w :=
  turned_same x n _ w (turned_f x n s h1 h2 h3 h4 h5)
theorem turn2 (x : Int) (w : World) : Calls Tryd.prog 134 #[.int .u32 x, .int .i64 2] w fun e w' => e = .returned (.int .u32 (turnH x 2)) ∧ w' = w := turned_at x 2 30 w (by kernel_rfl) (by kernel_rfl) (by decide) (by decide) (by decide)
theorem turn6 (x : Int) (w : World) : Calls Tryd.prog 134 #[.int .u32 x, .int .i64 6] w fun e w' => e = .returned (.int .u32 (turnH x 6)) ∧ w' = w := turned_at x 6 26 w (by kernel_rfl) (by kernel_rfl) (by decide) (by decide) (by decide)
theorem turn7 (x : Int) (w : World) : Calls Tryd.prog 134 #[.int .u32 x, .int .i64 7] w fun e w' => e = .returned (.int .u32 (turnH x 7)) ∧ w' = w := turned_at x 7 25 w (by kernel_rfl) (by kernel_rfl) (by decide) (by decide) (by decide)
theorem turn11 (x : Int) (w : World) : Calls Tryd.prog 134 #[.int .u32 x, .int .i64 11] w fun e w' => e = .returned (.int .u32 (turnH x 11)) ∧ w' = w := turned_at x 11 21 w (by kernel_rfl) (by kernel_rfl) (by decide) (by decide) (by decide)
theorem turn13 (x : Int) (w : World) : Calls Tryd.prog 134 #[.int .u32 x, .int .i64 13] w fun e w' => e = .returned (.int .u32 (turnH x 13)) ∧ w' = w := turned_at x 13 19 w (by kernel_rfl) (by kernel_rfl) (by decide) (by decide) (by decide)
theorem turn17 (x : Int) (w : World) : Calls Tryd.prog 134 #[.int .u32 x, .int .i64 17] w fun e w' => e = .returned (.int .u32 (turnH x 17)) ∧ w' = w := turned_at x 17 15 w (by kernel_rfl) (by kernel_rfl) (by decide) (by decide) (by decide)
theorem turn18 (x : Int) (w : World) : Calls Tryd.prog 134 #[.int .u32 x, .int .i64 18] w fun e w' => e = .returned (.int .u32 (turnH x 18)) ∧ w' = w := turned_at x 18 14 w (by kernel_rfl) (by kernel_rfl) (by decide) (by decide) (by decide)
theorem turn19 (x : Int) (w : World) : Calls Tryd.prog 134 #[.int .u32 x, .int .i64 19] w fun e w' => e = .returned (.int .u32 (turnH x 19)) ∧ w' = w := turned_at x 19 13 w (by kernel_rfl) (by kernel_rfl) (by decide) (by decide) (by decide)
theorem turn22 (x : Int) (w : World) : Calls Tryd.prog 134 #[.int .u32 x, .int .i64 22] w fun e w' => e = .returned (.int .u32 (turnH x 22)) ∧ w' = w := turned_at x 22 10 w (by kernel_rfl) (by kernel_rfl) (by decide) (by decide) (by decide)
theorem turn25 (x : Int) (w : World) : Calls Tryd.prog 134 #[.int .u32 x, .int .i64 25] w fun e w' => e = .returned (.int .u32 (turnH x 25)) ∧ w' = w := turned_at x 25 7 w (by kernel_rfl) (by kernel_rfl) (by decide) (by decide) (by decide)
theorem res121 (tmps : Array Value) (W : World) (g : Nat) (h4 : tmps.getD 4 undef = .pointer (some ⟨g, 0, none⟩)) (b0 b1 b2 b3 b4 b5 b6 b7 : Int)
    (r0 : W.cell? ⟨g, 0, none⟩ = some (.int .u32 b0)) (r1 : W.cell? ⟨g, 1, none⟩ = some (.int .u32 b1)) (r2 : W.cell? ⟨g, 2, none⟩ = some (.int .u32 b2)) (r3 : W.cell? ⟨g, 3, none⟩ = some (.int .u32 b3))
    (r4 : W.cell? ⟨g, 4, none⟩ = some (.int .u32 b4)) (r5 : W.cell? ⟨g, 5, none⟩ = some (.int .u32 b5)) (r6 : W.cell? ⟨g, 6, none⟩ = some (.int .u32 b6)) (r7 : W.cell? ⟨g, 7, none⟩ = some (.int .u32 b7)) :
    (results Tryd.f121 tmps).run Tryd.prog W = .ok (.agg #[.int .u32 b0, .int .u32 b1, .int .u32 b2, .int .u32 b3, .int .u32 b4, .int .u32 b5, .int .u32 b6, .int .u32 b7]) W := by
  have h4' : tmps[4]?.getD undef = .pointer (some ⟨g, 0, none⟩) := by simpa using h4
  have hres : Tryd.f121.results = #[.cell 4 122] := rfl
  simp only [results, hres, List.mapM_toArray, List.mapM_cons, List.mapM_nil, h4, asAddr]
  go_simp
set_option maxHeartbeats 4000000 in
set_option maxRecDepth 100000 in
theorem block_walk (h0 h1 h2 h3 h4 h5 h6 h7 : Int) (gb ob cb : Nat) (bs ks r : List Int) (w : World) (hgb : gb < w.heap.size) (hbl : bs.length = 64) (hob : ob < 1000000000000)
    (hb : ∀ j, j < 64 → w.cell? ⟨gb, ob + j, none⟩ = some (.int .u8 (bs.getD j 0))) (hL : ∀ j, j < 64 → w.cell? ⟨0, j, none⟩ = some (.int .u32 (ks.getD j 0))) (hkl : ks.length = 64) (H : spec_l01Block.v [h0, h1, h2, h3, h4, h5, h6, h7] bs ks = some r) :
    Calls Tryd.prog 121 #[.agg #[.int .u32 h0, .int .u32 h1, .int .u32 h2, .int .u32 h3, .int .u32 h4, .int .u32 h5, .int .u32 h6, .int .u32 h7], .slice (some ⟨gb, ob, none⟩) 64 cb] w fun e w' => e = .returned (.agg (r.map (Value.int .u32)).toArray) ∧ Below w.heap.size w w' ∧ r.length = 8 := by
  have HB := Aside0.mk hb
  have HL := Aside0.mk hL
  clear hb hL
  have H0 := Aside0.mk (start0 _ _ _ _ H)
  clear H
  go_enter Tryd.func121, Tryd.ntmps121
  go_wp2
  generalize hn : w.heap.size = n at *
  generalize hW : World.alloc _ _ = W3
  have F := Aside0.mk (show Bk w W3 n [h0, h1, h2, h3, h4, h5, h6, h7] (List.replicate 8 0) (List.replicate 64 0) from by subst hn; subst hW; exact Bk.start w [h0, h1, h2, h3, h4, h5, h6, h7] (List.replicate 8 0) (List.replicate 64 0) 122 122 136)
  clear hW
  simp only [Nat.add_assoc, Nat.reduceAdd]
  go_loopg [16] 16 (fun gg v16 wr => ∃ (i : Nat) (ws : List Int), i ≤ 16 ∧ gg + i = 16 ∧ v16 = .int .i64 (i : Int) ∧ ws.length = 64 ∧ Aside0 (spec_l01Block.lv0 [h0, h1, h2, h3, h4, h5, h6, h7] bs ks ws (i : Int) = some r) ∧ Aside0 (Bk w wr n [h0, h1, h2, h3, h4, h5, h6, h7] (List.replicate 8 0) ws))
  case atStart => exact ⟨0, _, by omega, rfl, rfl, List.length_replicate, H0, F⟩
  case round =>
    clear F H0
    obtain ⟨i, ws, hi, hg, rfl, hws, H0, F⟩ := hrel
    by_cases hlt : i < 16
    · have c1 : ((i : Int) < 16) := by omega
      obtain ⟨q0, hq0⟩ : ∃ q, q = 4 * i := ⟨_, rfl⟩
      obtain ⟨q1, hq1⟩ : ∃ q, q = 4 * i + 1 := ⟨_, rfl⟩
      obtain ⟨q2, hq2⟩ : ∃ q, q = 4 * i + 2 := ⟨_, rfl⟩
      obtain ⟨q3, hq3⟩ : ∃ q, q = 4 * i + 3 := ⟨_, rfl⟩
      have w0 : IntKind.i64.wrap (4 * (i : Int)) = (q0 : Int) := (w64id _ (by omega) (by omega)).trans (by omega)
      have w1 : IntKind.i64.wrap ((q0 : Int) + 1) = (q1 : Int) := (w64id _ (by omega) (by omega)).trans (by omega)
      have w2 : IntKind.i64.wrap ((q0 : Int) + 2) = (q2 : Int) := (w64id _ (by omega) (by omega)).trans (by omega)
      have w3 : IntKind.i64.wrap ((q0 : Int) + 3) = (q3 : Int) := (w64id _ (by omega) (by omega)).trans (by omega)
      have b0 := F.out.old hgb (HB.out q0 (by omega))
      have b1 := F.out.old hgb (HB.out q1 (by omega))
      have b2 := F.out.old hgb (HB.out q2 (by omega))
      have b3 := F.out.old hgb (HB.out q3 (by omega))
      have e0 : (q0 : Int) < 64 := by omega
      have e1 : (q1 : Int) < 64 := by omega
      have e2 : (q2 : Int) < 64 := by omega
      have e3 : (q3 : Int) < 64 := by omega
      have ei : (i : Int) < 64 := by omega
      have z0 := F.out.hw.cell i (by omega)
      have z1 := F.out.hw.free i (by omega)
      have H1 := Aside0.mk (step0 _ _ _ _ _ _ hbl hws hlt H0.out)
      rw [← hq1, ← hq2, ← hq3, ← hq0] at H1
      generalize hx0 : bs.getD q0 0 = x0 at b0 H1
      generalize hx1 : bs.getD q1 0 = x1 at b1 H1
      generalize hx2 : bs.getD q2 0 = x2 at b2 H1
      generalize hx3 : bs.getD q3 0 = x3 at b3 H1
      generalize ws.getD i 0 = xi at z0
      clear hq0 hq1 hq2 hq3 hx0 hx1 hx2 hx3
      go_wp2
      go_still_tail 35, (by kernel_rfl)
      change wpList _ _ _ _ _ wr.drew
      have z2 : wr.drew.cell? ⟨n + 2, i, none⟩ = some (.int .u32 xi) := z0
      have z3 : wr.drew.frozen? ⟨n + 2, i, none⟩ = false := z1
      have F2 := Aside0.mk (F.out.drew.word i (by omega) (word4 x0 x1 x2 x3))
      generalize wr.drew = w4 at z2 z3 F2 ⊢
      clear z0 z1 b0 b1 b2 b3 F
      go_wp2
      go_roundg (16 - (i + 1))
      case measure => omega
      case rel => exact ⟨i + 1, _, by omega, by omega, by go_num, by rw [List.length_set]; exact hws, H1, F2⟩
    · have hlt2 : ¬ ((i : Int) < 16) := by omega
      have H1 := Aside0.mk (exit0 _ _ _ _ _ _ hlt2 H0.out)
      clear H0
      go_wp2
      go_loopg [7] 48 (fun gg v7 wr => ∃ (i : Nat) (ws : List Int), i ≤ 64 ∧ 16 ≤ i ∧ gg + i = 64 ∧ v7 = .int .i64 (i : Int) ∧ ws.length = 64 ∧ Aside0 (spec_l01Block.lv1 [h0, h1, h2, h3, h4, h5, h6, h7] ks ws (i : Int) = some r) ∧ Aside0 (Bk w wr n [h0, h1, h2, h3, h4, h5, h6, h7] (List.replicate 8 0) ws))
      case atStart => exact ⟨16, ws, by omega, by omega, rfl, rfl, hws, H1, F⟩
      case round =>
        clear F H1 hlt2 hlt hi hws
        obtain ⟨i, ws, hi, h16, hg, rfl, hws, H0, F⟩ := hrel
        by_cases hlt : i < 64
        · have c1 : ((i : Int) < 64) := by omega
          obtain ⟨q0, hq0⟩ : ∃ q, q = i - 16 := ⟨_, rfl⟩
          obtain ⟨q1, hq1⟩ : ∃ q, q = i - 15 := ⟨_, rfl⟩
          obtain ⟨q2, hq2⟩ : ∃ q, q = i - 7 := ⟨_, rfl⟩
          obtain ⟨q3, hq3⟩ : ∃ q, q = i - 2 := ⟨_, rfl⟩
          have w0 : IntKind.i64.wrap ((i : Int) - 16) = (q0 : Int) := (w64id _ (by omega) (by omega)).trans (by omega)
          have w1 : IntKind.i64.wrap ((i : Int) - 15) = (q1 : Int) := by clear w0; exact (w64id _ (by omega) (by omega)).trans (by omega)
          have w2 : IntKind.i64.wrap ((i : Int) - 7) = (q2 : Int) := by clear w0 w1; exact (w64id _ (by omega) (by omega)).trans (by omega)
          have w3 : IntKind.i64.wrap ((i : Int) - 2) = (q3 : Int) := by clear w0 w1 w2; exact (w64id _ (by omega) (by omega)).trans (by omega)
          have g0 : q0 < ws.length := by clear w0 w1 w2 w3; omega
          have g1 : q1 < ws.length := by clear w0 w1 w2 w3; omega
          have g2 : q2 < ws.length := by clear w0 w1 w2 w3; omega
          have g3 : q3 < ws.length := by clear w0 w1 w2 w3; omega
          have g4 : i < ws.length := by clear w0 w1 w2 w3; omega
          have b0 := F.out.hw.cell q0 g0
          have b1 := F.out.hw.cell q1 g1
          have b2 := F.out.hw.cell q2 g2
          have b3 := F.out.hw.cell q3 g3
          have e0 : (q0 : Int) < 64 := by clear w0 w1 w2 w3; omega
          have e1 : (q1 : Int) < 64 := by clear w0 w1 w2 w3; omega
          have e2 : (q2 : Int) < 64 := by clear w0 w1 w2 w3; omega
          have e3 : (q3 : Int) < 64 := by clear w0 w1 w2 w3; omega
          have z0 := F.out.hw.cell i g4
          have z1 := F.out.hw.free i g4
          have H1 := Aside0.mk (step1 _ _ _ _ _ hws h16 hlt H0.out)
          rw [← hq0, ← hq1, ← hq2, ← hq3] at H1
          generalize hx0 : ws.getD q0 0 = x0 at b0 H1
          generalize hx1 : ws.getD q1 0 = x1 at b1 H1
          generalize hx2 : ws.getD q2 0 = x2 at b2 H1
          generalize hx3 : ws.getD q3 0 = x3 at b3 H1
          generalize ws.getD i 0 = xi at z0
          clear hq0 hq1 hq2 hq3 hx0 hx1 hx2 hx3 g0 g1 g2 g3 H0
          go_wp2
          go_quiet (fail)
          have F3 := Aside0.mk (F.out.drewN nq)
          have b0_ : (wr.drewN nq).cell? _ = _ := b0
          have b1_ : (wr.drewN nq).cell? _ = _ := b1
          have b2_ : (wr.drewN nq).cell? _ = _ := b2
          have b3_ : (wr.drewN nq).cell? _ = _ := b3
          have z0_ : (wr.drewN nq).cell? _ = _ := z0
          have z1_ : (wr.drewN nq).frozen? _ = _ := z1
          clear b0 b1 b2 b3 z0 z1 F
          generalize wr.drewN nq = w5 at b0_ b1_ b2_ b3_ z0_ z1_ F3 ⊢
          go_wp2
          refine wp_region_still_tail 29 (by kernel_rfl) (by kernel_rfl) ?_
          simp only [List.take_succ_cons, List.take_zero, List.drop_succ_cons, List.drop_zero]
          repeat still_step
          still_call (turn7 _ _)
          repeat still_step
          still_call (turn18 _ _)
          repeat still_step
          still_call (turn17 _ _)
          repeat still_step
          still_call (turn19 _ _)
          repeat still_step
          refine wpStill_nil ?_
          change wpList _ _ _ _ _ w5.drew
          have z2 : w5.drew.cell? ⟨n + 2, i, none⟩ = some (.int .u32 xi) := z0_
          have z3 : w5.drew.frozen? ⟨n + 2, i, none⟩ = false := z1_
          have F2 := Aside0.mk (F3.out.drew.word i g4 (wordX x0 (sig x1 7 18 (x1 / 8)) x2 (sig x3 17 19 (x3 / 1024))))
          generalize w5.drew = w4 at z2 z3 F2 ⊢
          clear z0_ z1_ b0_ b1_ b2_ b3_ F3 w0 w1 w2 w3
          go_wp2
          go_roundg (64 - (i + 1))
          case measure => omega
          case rel => exact ⟨i + 1, _, by omega, by omega, by omega, by go_num, by rw [List.length_set]; exact hws, H1, F2⟩
        · have hlt2 : ¬ ((i : Int) < 64) := by omega
          have H1 := Aside0.mk (exit1 _ _ _ _ rfl _ hlt2 H0.out)
          clear H0
          obtain ⟨⟨a0, a1, a2, a3, a4, a5, a6, a7⟩, -⟩ := F.out.hh.eight
          have hsz := F.out.size
          go_wp2
          have F2 : Aside0 (Bk2 w (wr.alloc (.cells #[.int .u32 h0, .int .u32 h1, .int .u32 h2, .int .u32 h3, .int .u32 h4, .int .u32 h5, .int .u32 h6, .int .u32 h7] 122)) n [h0, h1, h2, h3, h4, h5, h6, h7] (List.replicate 8 0) ws [h0, h1, h2, h3, h4, h5, h6, h7]) := Aside0.mk (Bk2.start F.out [h0, h1, h2, h3, h4, h5, h6, h7] 122)
          generalize World.alloc _ _ = w5 at F2 ⊢
          clear a0 a1 a2 a3 a4 a5 a6 a7 hsz F
          go_loopg [97] 64 (fun gg v97 wr => ∃ (i : Nat) (a0 a1 a2 a3 a4 a5 a6 a7 : Int), i ≤ 64 ∧ gg + i = 64 ∧ v97 = .int .i64 (i : Int) ∧ Aside0 (spec_l01Block.lv2 [h0, h1, h2, h3, h4, h5, h6, h7] ks ws [a0, a1, a2, a3, a4, a5, a6, a7] (i : Int) = some r) ∧ Aside0 (Bk2 w wr n [h0, h1, h2, h3, h4, h5, h6, h7] (List.replicate 8 0) ws [a0, a1, a2, a3, a4, a5, a6, a7]))
          case atStart => exact ⟨0, h0, h1, h2, h3, h4, h5, h6, h7, by omega, rfl, rfl, H1, F2⟩
          case round =>
            clear F2 H1 hlt2 hlt hi h16
            obtain ⟨i, a0, a1, a2, a3, a4, a5, a6, a7, hi, hg, rfl, H0, F⟩ := hrel
            by_cases hlt : i < 64
            · have c1 : ((i : Int) < 64) := by omega
              obtain ⟨⟨c0, d1, d2, d3, d4, d5, d6, d7⟩, -⟩ := F.out.ha.eight
              have bk := F.out.old (by omega) (HL.out i (by omega))
              have bw := F.out.hw.cell i (by omega)
              obtain ⟨xk, hxk⟩ : ∃ x, ks.getD i 0 = x := ⟨_, rfl⟩
              obtain ⟨xw, hxw⟩ : ∃ x, ws.getD i 0 = x := ⟨_, rfl⟩
              rw [hxk] at bk
              rw [hxw] at bw
              have HX := Aside0.mk (And.intro hxk hxw)
              clear hxk hxw
              go_wp2
              refine wp_region_still_lit (by kernel_rfl) (by kernel_rfl) ?_
              repeat still_step
              still_call (turn6 _ _)
              repeat still_step
              still_call (turn11 _ _)
              repeat still_step
              still_call (turn25 _ _)
              repeat still_step
              refine wpStill_nil ?_
              have F3 := Aside0.mk F.out.drew
              have c0_ : wr.drew.cell? _ = _ := c0
              have d1_ : wr.drew.cell? _ = _ := d1
              have d2_ : wr.drew.cell? _ = _ := d2
              have d3_ : wr.drew.cell? _ = _ := d3
              have d4_ : wr.drew.cell? _ = _ := d4
              have d5_ : wr.drew.cell? _ = _ := d5
              have d6_ : wr.drew.cell? _ = _ := d6
              have d7_ : wr.drew.cell? _ = _ := d7
              clear c0 d1 d2 d3 d4 d5 d6 d7 bk bw F
              generalize hxp : IntKind.u32.wrap (IntKind.u32.wrap (_ + xk) + xw) = xp
              have hp : pW a7 a4 a5 a6 xk xw = xp := hxp
              have HP := Aside0.mk hp
              clear hxp hp
              rw [show ({ heap := wr.heap, tape := wr.tape, drawn := wr.drawn + 1, os := wr.os, output := wr.output } : World) = wr.drew from rfl]
              generalize wr.drew = w6 at c0_ d1_ d2_ d3_ d4_ d5_ d6_ d7_ F3 ⊢
              go_wp2
              refine wp_region_still_lit (by kernel_rfl) (by kernel_rfl) ?_
              repeat still_step
              still_call (turn2 _ _)
              repeat still_step
              still_call (turn13 _ _)
              repeat still_step
              still_call (turn22 _ _)
              repeat still_step
              refine wpStill_nil ?_
              obtain ⟨⟨c0, d1, d2, d3, d4, d5, d6, d7⟩, ⟨f0, f1, f2, f3, f4, f5, f6, f7⟩⟩ := F3.out.drew.ha.eight
              have F4 := Aside0.mk F3.out.drew
              clear c0_ d1_ d2_ d3_ d4_ d5_ d6_ d7_ F3
              generalize hxq : IntKind.u32.wrap (_ + Go.bits .xor .u32 _ (Go.bits .and .u32 a1 a2)) = xq
              have hq : qW a0 a1 a2 = xq := hxq
              have HQ := Aside0.mk hq
              clear hxq hq
              rw [show ({ heap := w6.heap, tape := w6.tape, drawn := w6.drawn + 1, os := w6.os, output := w6.output } : World) = w6.drew from rfl]
              generalize w6.drew = w7 at c0 d1 d2 d3 d4 d5 d6 d7 f0 f1 f2 f3 f4 f5 f6 f7 F4 ⊢
              have H1 := Aside0.mk (step2w _ _ _ _ _ _ _ _ _ _ _ _ _ hws hkl hlt xk xw xp xq HX.out.1 HX.out.2 HP.out HQ.out H0.out)
              clear H0
              go_wp2
              go_roundg (64 - (i + 1))
              case measure => omega
              case rel =>
                have F5 := ((((((((F4.out.set 0 (by simp) ((xp + xq) % 4294967296)).set 1 (by simp) a0).set 2 (by simp) a1).set 3 (by simp) a2).set 4 (by simp) ((a3 + xp) % 4294967296)).set 5 (by simp) a4).set 6 (by simp) a5).set 7 (by simp) a6)
                exact ⟨i + 1, _, _, _, _, _, _, _, _, by omega, by omega, by go_num, H1, ⟨F5⟩⟩
            · have hlt2 : ¬ ((i : Int) < 64) := by omega
              have H1 := Aside0.mk (exit2 _ _ _ _ _ _ hlt2 H0.out)
              clear H0
              go_wp2
              go_loopg [182] 8 (fun gg v182 wr => ∃ (i : Nat) (lh : List Int), i ≤ 8 ∧ gg + i = 8 ∧ v182 = .int .i64 (i : Int) ∧ lh.length = 8 ∧ Aside0 (spec_l01Block.lv3 lh [a0, a1, a2, a3, a4, a5, a6, a7] (i : Int) = some r) ∧ Aside0 (Bk2 w wr n lh (List.replicate 8 0) ws [a0, a1, a2, a3, a4, a5, a6, a7]))
              case atStart => exact ⟨0, _, by omega, rfl, rfl, rfl, H1, F⟩
              case round =>
                clear F H1 hlt2 hlt hi
                obtain ⟨i, lh, hi, hg, rfl, hlh, H0, F⟩ := hrel
                by_cases hlt : i < 8
                · have c1 : ((i : Int) < 8) := by omega
                  have H1 := Aside0.mk (step3 _ _ _ _ hlh rfl hlt H0.out)
                  have b0 := F.out.hh.cell i (by omega)
                  have b1 := F.out.ha.cell i (by simpa using hlt)
                  have z1 := F.out.hh.free i (by omega)
                  clear H0
                  obtain ⟨x0, hx0⟩ : ∃ x, lh.getD i 0 = x := ⟨_, rfl⟩
                  obtain ⟨x1, hx1⟩ : ∃ x, ([a0, a1, a2, a3, a4, a5, a6, a7] : List Int).getD i 0 = x := ⟨_, rfl⟩
                  rw [hx0] at b0 H1
                  rw [hx1] at b1 H1
                  rw [u32w_h] at H1
                  clear hx0 hx1
                  go_wp2
                  refine wp_region_still_tail 8 (by kernel_rfl) (by kernel_rfl) ?_
                  simp only [List.take_succ_cons, List.take_zero, List.drop_succ_cons, List.drop_zero]
                  repeat still_step
                  refine wpStill_nil ?_
                  change wpList _ _ _ _ _ wr.drew
                  have z2 : wr.drew.cell? ⟨n, i, none⟩ = some (.int .u32 x0) := b0
                  have z3 : wr.drew.frozen? ⟨n, i, none⟩ = false := z1
                  have F2 := Aside0.mk (F.out.drew.head i (by omega) ((x0 + x1) % 4294967296))
                  generalize wr.drew = w4 at z2 z3 F2 ⊢
                  clear z1 b0 b1 F
                  go_wp2
                  go_roundg (8 - (i + 1))
                  case measure => omega
                  case rel => exact ⟨i + 1, _, by omega, by omega, by go_num, by rw [List.length_set]; exact hlh, H1, F2⟩
                · have hlt2 : ¬ ((i : Int) < 8) := by omega
                  have e := exit3 _ _ _ _ hlt2 H0.out
                  subst e
                  clear H0
                  obtain ⟨b0, b1, b2, b3, b4, b5, b6, b7, rfl⟩ := eight hlh
                  obtain ⟨⟨c0, d1, d2, d3, d4, d5, d6, d7⟩, -⟩ := F.out.hh.eight
                  obtain ⟨⟨k0, k1, k2, k3, k4, k5, k6, k7⟩, ⟨f0, f1, f2, f3, f4, f5, f6, f7⟩⟩ := Au.eight (show Au wr (n + 1) [0, 0, 0, 0, 0, 0, 0, 0] from F.out.hr)
                  go_wp2
                  have F5 := (((((((F.out.out 0 (by simp) b0).out 1 (by simp) b1).out 2 (by simp) b2).out 3 (by simp) b3).out 4 (by simp) b4).out 5 (by simp) b5).out 6 (by simp) b6).out 7 (by simp) b7
                  obtain ⟨⟨r0, r1, r2, r3, r4, r5, r6, r7⟩, -⟩ := F5.hr.eight
                  have hbl := F5.below
                  clear c0 d1 d2 d3 d4 d5 d6 d7 k0 k1 k2 k3 k4 k5 k6 k7 f0 f1 f2 f3 f4 f5 f6 f7 F F5
                  (try simp only [Exit.inBlock, Exit.then])
                  generalize World.setCell (World.setCell (World.setCell (World.setCell (World.setCell (World.setCell (World.setCell (World.setCell wr _ _) _ _) _ _) _ _) _ _) _ _) _ _) _ _ = W8 at hbl r0 r1 r2 r3 r4 r5 r6 r7 ⊢
                  refine bodyPost_ret (res121 _ _ (n + 1) (by rfl) _ _ _ _ _ _ _ _ r0 r1 r2 r3 r4 r5 r6 r7) rfl ?_
                  first | exact ⟨rfl, hbl, rfl⟩ | exact ⟨rfl, hbl⟩
def hashIV : List Int := [1779033703, 3144134277, 1013904242, 2773480762, 1359893119, 2600822924, 528734635, 1541459225]
def roundKs : List Int := [1116352408, 1899447441, 3049323471, 3921009573, 961987163, 1508970993, 2453635748, 2870763221, 3624381080, 310598401, 607225278, 1426881987, 1925078388, 2162078206, 2614888103, 3248222580, 3835390401, 4022224774, 264347078, 604807628, 770255983, 1249150122, 1555081692, 1996064986, 2554220882, 2821834349, 2952996808, 3210313671, 3336571891, 3584528711, 113926993, 338241895, 666307205, 773529912, 1294757372, 1396182291, 1695183700, 1986661051, 2177026350, 2456956037, 2730485921, 2820302411, 3259730800, 3345764771, 3516065817, 3600352804, 4094571909, 275423344, 430227734, 506948616, 659060556, 883997877, 958139571, 1322822218, 1537002063, 1747873779, 1955562222, 2024104815, 2227730452, 2361852424, 2428436474, 2756734187, 3204031479, 3329325298]
theorem hstart (x : List Int) (r : ByteArray) (hx : x.length ≤ 40000000) (H : spec_l01Hash.v x = some r) : spec_l01Hash.lv0 x hashIV (x ++ [128]) = some r := by
  rw [spec_l01Hash.v_eq, Option.bind_some, if_pos (by simp; omega), Option.bind_some, if_pos (by simp; omega), List.nil_append] at H
  exact H
theorem hpad (x h all : List Int) (r : ByteArray) (ha : all.length < 140737488355328) (hc : all.length % 64 ≠ 56) (H : spec_l01Hash.lv0 x h all = some r) : spec_l01Hash.lv0 x h (all ++ [0]) = some r := by
  rw [spec_l01Hash.lv0_eq, if_neg (by omega), if_pos ha] at H
  exact H
theorem hpadded (x h all : List Int) (r : ByteArray) (hc : all.length % 64 = 56) (H : spec_l01Hash.lv0 x h all = some r) : spec_l01Hash.lv1 x h all 7 = some r := by
  rw [spec_l01Hash.lv0_eq, if_pos (by omega)] at H
  exact H
theorem shr_at (n : Int) (k : Nat) (hk : k ≤ 56) : shr .i64 n (k : Int) = n / 2 ^ k := by
  unfold shr
  rw [Int.toNat_natCast, Nat.min_eq_left (by show k ≤ 64; omega)]
/-- The eight bytes of the length. -/
def be8 (n : Int) : List Int := [n / 256 / 256 / 256 / 256 / 256 / 256 / 256 % 256, n / 256 / 256 / 256 / 256 / 256 / 256 % 256, n / 256 / 256 / 256 / 256 / 256 % 256, n / 256 / 256 / 256 / 256 % 256, n / 256 / 256 / 256 % 256, n / 256 / 256 % 256, n / 256 % 256, n % 256]
theorem number8 (n : Int) : impl_number.v n 8 = some (strOfNums (be8 n)) := by
  have w8 : wrap64 (8 - 1) = 7 := w64n _ (by omega) (by omega)
  have w7 : wrap64 (7 - 1) = 6 := w64n _ (by omega) (by omega)
  have w6 : wrap64 (6 - 1) = 5 := w64n _ (by omega) (by omega)
  have w5 : wrap64 (5 - 1) = 4 := w64n _ (by omega) (by omega)
  have w4 : wrap64 (4 - 1) = 3 := w64n _ (by omega) (by omega)
  have w3 : wrap64 (3 - 1) = 2 := w64n _ (by omega) (by omega)
  have w2 : wrap64 (2 - 1) = 1 := w64n _ (by omega) (by omega)
  have w0 : wrap64 (1 - 1) = 0 := w64n _ (by omega) (by omega)
  have w1 : wrap64 (0 - 1) = -1 := w64n _ (by omega) (by omega)
  rw [impl_number.v_eq, if_pos (by decide), if_pos (by decide), w8]
  rw [impl_number.lv0_eq, if_pos (by decide), if_pos (by decide), if_pos (by simp), w7]
  rw [impl_number.lv0_eq, if_pos (by decide), if_pos (by decide), if_pos (by simp), w6]
  rw [impl_number.lv0_eq, if_pos (by decide), if_pos (by decide), if_pos (by simp), w5]
  rw [impl_number.lv0_eq, if_pos (by decide), if_pos (by decide), if_pos (by simp), w4]
  rw [impl_number.lv0_eq, if_pos (by decide), if_pos (by decide), if_pos (by simp), w3]
  rw [impl_number.lv0_eq, if_pos (by decide), if_pos (by decide), if_pos (by simp), w2]
  rw [impl_number.lv0_eq, if_pos (by decide), if_pos (by decide), if_pos (by simp), w0]
  rw [impl_number.lv0_eq, if_pos (by decide), if_pos (by decide), if_pos (by simp), w1, impl_number.lv0_eq, if_neg (by decide)]
  rfl
def be4 (n : Int) : List Int := [n / 256 / 256 / 256 % 256, n / 256 / 256 % 256, n / 256 % 256, n % 256]
theorem number4 (n : Int) : impl_number.v n 4 = some (strOfNums (be4 n)) := by
  have w4 : wrap64 (4 - 1) = 3 := w64n _ (by omega) (by omega)
  have w3 : wrap64 (3 - 1) = 2 := w64n _ (by omega) (by omega)
  have w2 : wrap64 (2 - 1) = 1 := w64n _ (by omega) (by omega)
  have w0 : wrap64 (1 - 1) = 0 := w64n _ (by omega) (by omega)
  have w1 : wrap64 (0 - 1) = -1 := w64n _ (by omega) (by omega)
  rw [impl_number.v_eq, if_pos (by decide), if_pos (by decide), w4]
  rw [impl_number.lv0_eq, if_pos (by decide), if_pos (by decide), if_pos (by simp), w3]
  rw [impl_number.lv0_eq, if_pos (by decide), if_pos (by decide), if_pos (by simp), w2]
  rw [impl_number.lv0_eq, if_pos (by decide), if_pos (by decide), if_pos (by simp), w0]
  rw [impl_number.lv0_eq, if_pos (by decide), if_pos (by decide), if_pos (by simp), w1, impl_number.lv0_eq, if_neg (by decide)]
  rfl
theorem hlen_step (x h all : List Int) (r : ByteArray) (k : Nat) (hk : k < 8) (ha : all.length < 140737488355328) (H : spec_l01Hash.lv1 x h all (k : Int) = some r) :
    spec_l01Hash.lv1 x h (all ++ [wrap64 (8 * (x.length : Int)) / 2 ^ (8 * k) % 256]) ((k : Int) - 1) = some r := by
  have e1 : wrap64 (8 * (k : Int)) = ((8 * k : Nat) : Int) := by rw [w64n _ (by omega) (by omega)]; omega
  have e2 : IntKind.u64.wrap ((8 * k : Nat) : Int) = ((8 * k : Nat) : Int) := by
    clear e1
    unfold IntKind.wrap
    simp [IntKind.bits, IntKind.signed]
    omega
  have e3 : (0 : Int) ≤ ((8 * k : Nat) : Int) := by clear e1 e2; omega
  have e4 : (k : Int) ≥ 0 := by clear e1 e2; omega
  have e5 : wrap64 ((k : Int) - 1) = (k : Int) - 1 := by clear e1 e2; exact w64n _ (by omega) (by omega)
  rw [spec_l01Hash.lv1_eq, e1, e2, e5, if_pos e4, if_pos e3, if_pos ha, shr_at _ _ (by clear e1 e2 e5; omega)] at H
  exact H
theorem hlen_end (x h all : List Int) (r : ByteArray) (H : spec_l01Hash.lv1 x h all (-1) = some r) : spec_l01Hash.lv2 h all roundKs ((64 * 0 : Nat) : Int) = some r := by
  rw [spec_l01Hash.lv1_eq, if_neg (by decide), spec_l01Consts.v_eq, Option.bind_some] at H
  exact H
theorem hlen (x h all : List Int) (r : ByteArray) (ha : all.length < 100000000) (hx : x.length ≤ 40000000) (H : spec_l01Hash.lv1 x h all 7 = some r) :
    spec_l01Hash.lv2 h (all ++ be8 (wrap64 (8 * (x.length : Int)))) roundKs ((64 * 0 : Nat) : Int) = some r := by
  generalize hn : wrap64 (8 * (x.length : Int)) = n
  have h7 := hlen_step x h _ r 7 (by decide) (by omega) H
  have h6 := hlen_step x h _ r 6 (by decide) (by simp; omega) h7
  have h5 := hlen_step x h _ r 5 (by decide) (by simp; omega) h6
  have h4 := hlen_step x h _ r 4 (by decide) (by simp; omega) h5
  have h3 := hlen_step x h _ r 3 (by decide) (by simp; omega) h4
  have h2 := hlen_step x h _ r 2 (by decide) (by simp; omega) h3
  have h1 := hlen_step x h _ r 1 (by decide) (by simp; omega) h2
  have h0 := hlen_step x h _ r 0 (by decide) (by simp; omega) h1
  have he := hlen_end x h _ r h0
  rw [hn] at he
  simp only [List.append_assoc, List.cons_append, List.nil_append] at he
  have v2 : n / 256 / 256 = n / 65536 := by omega
  have v3 : n / 256 / 256 / 256 = n / 16777216 := by omega
  have v4 : n / 256 / 256 / 256 / 256 = n / 4294967296 := by omega
  have v5 : n / 256 / 256 / 256 / 256 / 256 = n / 1099511627776 := by omega
  have v6 : n / 256 / 256 / 256 / 256 / 256 / 256 = n / 281474976710656 := by omega
  have v7 : n / 256 / 256 / 256 / 256 / 256 / 256 / 256 = n / 72057594037927936 := by omega
  unfold be8
  rw [v7, v6, v5, v4, v3, v2]
  simpa using he
theorem hround (hv all : List Int) (r : ByteArray) (m K : Nat) (hl : all.length = 64 * K) (hK : K ≤ 2000000) (hm : m < K) (H : spec_l01Hash.lv2 hv all roundKs ((64 * m : Nat) : Int) = some r) :
    ∃ h', spec_l01Block.v hv ((all.take (64 * m + 64)).drop (64 * m)) roundKs = some h' ∧ spec_l01Hash.lv2 h' all roundKs ((64 * (m + 1) : Nat) : Int) = some r := by
  have e1 : wrap64 (((64 * m : Nat) : Int) + 64) = ((64 * (m + 1) : Nat) : Int) := by rw [w64n _ (by omega) (by omega)]; omega
  have g1 : ((64 * m : Nat) : Int) < (all.length : Int) := by clear e1; omega
  have g2 : (0 : Int) ≤ ((64 * m : Nat) : Int) := by clear e1; omega
  have g3 : ((64 * m : Nat) : Int) ≤ ((64 * (m + 1) : Nat) : Int) := by clear e1; omega
  have g4 : ((64 * (m + 1) : Nat) : Int) ≤ (all.length : Int) := by clear e1; omega
  rw [spec_l01Hash.lv2_eq, e1, if_pos g1, if_pos g2, if_pos g3, if_pos g4, Int.toNat_natCast, Int.toNat_natCast] at H
  obtain ⟨h', e, H⟩ := Option.bind_eq_some_iff.1 H
  exact ⟨h', e, H⟩
theorem hrounds (hv all : List Int) (r : ByteArray) (i : Int) (hi : ¬ i < (all.length : Int)) (H : spec_l01Hash.lv2 hv all roundKs i = some r) : spec_l01Hash.lv3 hv [] ((0 : Nat) : Int) = some r := by
  rw [spec_l01Hash.lv2_eq, if_neg hi] at H
  rw [show ((0 : Nat) : Int) = 0 from rfl]
  exact H
theorem hout (hv o : List Int) (r : ByteArray) (i : Nat) (hh : hv.length = 8) (hi : i < 8) (ho : o.length ≤ 1000) (H : spec_l01Hash.lv3 hv o (i : Int) = some r) :
    spec_l01Hash.lv3 hv (o ++ be4 (hv.getD i 0)) ((i + 1 : Nat) : Int) = some r := by
  have g1 : (i : Int) < 8 := by omega
  have g2 : (0 : Int) ≤ (i : Int) := by omega
  have g3 : (i : Int) < (hv.length : Int) := by omega
  have e1 : wrap64 ((i : Int) + 1) = ((i + 1 : Nat) : Int) := wadd i (by omega)
  have e2 : rd hv (i : Int) = hv.getD i 0 := by simp [rd]
  rw [spec_l01Hash.lv3_eq, e1, if_pos g1, if_pos g2, if_pos g3, Option.bind_some, if_pos (by simp; omega), e2] at H
  have v2 : hv.getD i 0 / 256 / 256 = hv.getD i 0 / 65536 := by clear e1 e2; omega
  have v3 : hv.getD i 0 / 256 / 256 / 256 = hv.getD i 0 / 16777216 := by clear e1 e2 v2; omega
  unfold be4
  rw [v3, v2]
  exact H
theorem hdone (hv o : List Int) (r : ByteArray) (i : Int) (hi : ¬ i < 8) (H : spec_l01Hash.lv3 hv o i = some r) : strOfNums o = r := by
  rw [spec_l01Hash.lv3_eq, if_neg hi] at H
  exact Option.some.inj H
theorem be8_len (n : Int) : (be8 n).length = 8 := by unfold be8; rfl
theorem be4_len (n : Int) : (be4 n).length = 4 := by unfold be4; rfl
theorem bytes_num (l : List Int) (h : ∀ x ∈ l, 0 ≤ x ∧ x < 256) : bytesOf (strOfNums l) = l := by
  unfold bytesOf
  rw [strOfNums_data, List.map_map]
  conv => rhs; rw [← List.map_id l]
  apply List.map_congr_left
  intro x hx
  have := h x hx
  simp only [Function.comp_apply, id]
  rw [UInt8.toNat_ofNat_of_lt' (by show x.toNat < 256; omega)]
  omega
theorem num8 (n : Int) : ∃ k y, impl_number.f k n 8 = some y ∧ bytesOf y = be8 n ∧ y.size = 8 := by
  obtain ⟨k, hk⟩ := (impl_number.v_lim n 8).at_ (strOfNums (be8 n)) (number8 n)
  have hb : bytesOf (strOfNums (be8 n)) = be8 n := bytes_num _ (by
    intro x hx
    unfold be8 at hx
    simp only [List.mem_cons, List.not_mem_nil, or_false] at hx
    rcases hx with rfl | rfl | rfl | rfl | rfl | rfl | rfl | rfl <;> omega)
  exact ⟨k, _, hk, hb, by rw [← bytesOf_length, hb, be8_len]⟩
theorem num4 (n : Int) : ∃ k y, impl_number.f k n 4 = some y ∧ bytesOf y = be4 n ∧ y.size = 4 := by
  obtain ⟨k, hk⟩ := (impl_number.v_lim n 4).at_ (strOfNums (be4 n)) (number4 n)
  have hb : bytesOf (strOfNums (be4 n)) = be4 n := bytes_num _ (by
    intro x hx
    unfold be4 at hx
    simp only [List.mem_cons, List.not_mem_nil, or_false] at hx
    rcases hx with rfl | rfl | rfl | rfl <;> omega)
  exact ⟨k, _, hk, hb, by rw [← bytesOf_length, hb, be4_len]⟩
/-- What the hash's walk keeps: its bytes, its eight words. -/
structure Ih (w W : World) (n g cap gh : Nat) (al hv : List Int) : Prop where
  hs : Hs w W n g cap al
  ha : Au W gh hv
  ne : g ≠ gh
  mine : n ≤ gh
  lt : gh < W.heap.size
theorem Ih.start {w W : World} {n g cap : Nat} {al : List Int} (h : Hs w W n g cap al) (hv : List Int) (t : Nat) : Ih w (W.alloc (.cells (hv.map (Value.int .u32)).toArray t)) n g cap W.heap.size al hv := by
  have h1 := h.lt
  have h2 := h.mine
  refine ⟨h.alloc _, Au.of_row (e := t) _ ?_, by omega, by omega, by rw [alloc_sz]; omega⟩
  rw [alloc_at, if_pos rfl]
theorem Ih.on {w W W' : World} {n g cap gh : Nat} {al hv : List Int} (h : Ih w W n g cap gh al hv) (b : Below W.heap.size W W') : Ih w W' n g cap gh al hv :=
  ⟨h.hs.on b, h.ha.at (b.block gh h.lt), h.ne, h.mine, Nat.lt_of_lt_of_le h.lt b.size⟩
theorem Ih.drew {w W : World} {n g cap gh : Nat} {al hv : List Int} (h : Ih w W n g cap gh al hv) : Ih w W.drew n g cap gh al hv :=
  h.on ⟨rfl, rfl, rfl, Nat.le_refl _, fun _ _ => rfl⟩
theorem Ih.set {w W : World} {n g cap gh : Nat} {al hv : List Int} (h : Ih w W n g cap gh al hv) (j : Nat) (hj : j < hv.length) (x : Int) : Ih w (W.setCell ⟨gh, j, none⟩ (.int .u32 x)) n g cap gh al (hv.set j x) := by
  have hs : (W.setCell ⟨gh, j, none⟩ (.int .u32 x)).heap.size = W.heap.size := by simp [World.setCell]
  exact ⟨⟨h.hs.row.at (setCell_old W _ _ g h.ne), h.hs.mine, by rw [hs]; exact h.hs.lt, below_set_h h.hs.below h.mine⟩, h.ha.set j hj x, h.ne, h.mine, by rw [hs]; exact h.lt⟩
theorem cut64 (al : List Int) (o j : Nat) (hj : j < 64) : ((al.take (o + 64)).drop o).getD j 0 = al.getD (o + j) 0 := by
  simp only [List.getD, List.getElem?_drop, List.getElem?_take]
  rw [if_pos (by omega)]
theorem str_add (a b : List Int) : strOfNums a ++ strOfNums b = strOfNums (a ++ b) := by
  apply ByteArray.ext
  apply Array.toList_inj.1
  rw [ByteArray.data_append, Array.toList_append, strOfNums_data, strOfNums_data, strOfNums_data, List.map_append]
theorem be4_wrap (x : Int) : be4 (wrap64 x) = be4 x := by
  rw [← i64_w, IntKind.wrap_i64]
  unfold be4
  have h : ∀ a b : Int, a % 4294967296 = b % 4294967296 → a / 256 / 256 / 256 % 256 = b / 256 / 256 / 256 % 256 ∧ a / 256 / 256 % 256 = b / 256 / 256 % 256 ∧ a / 256 % 256 = b / 256 % 256 ∧ a % 256 = b % 256 := by
    intro a b h
    refine ⟨by omega, by omega, by omega, by omega⟩
  obtain ⟨h1, h2, h3, h4⟩ := h ((x + 9223372036854775808) % 18446744073709551616 - 9223372036854775808) x (by omega)
  rw [h1, h2, h3, h4]
theorem str_back (s : ByteArray) : strOfNums (bytesOf s) = s := by
  apply ByteArray.ext
  apply Array.toList_inj.1
  rw [strOfNums_data]
  unfold bytesOf
  rw [List.map_map]
  conv => rhs; rw [← List.map_id s.data.toList]
  apply List.map_congr_left
  intro x hx
  simp
theorem num4s (x : Int) : ∃ k y, impl_number.f k (wrap64 x) 4 = some y ∧ y = strOfNums (be4 x) ∧ y.size = 4 := by
  obtain ⟨k, y, h1, h2, h3⟩ := num4 (wrap64 x)
  exact ⟨k, y, h1, by rw [← str_back y, h2, be4_wrap], h3⟩
theorem strsz (l : List Int) : (strOfNums l).size = l.length := by
  show (strOfNums l).data.size = _
  simp [strOfNums]
set_option maxRecDepth 100000 in
theorem idx122 (a0 a1 a2 a3 a4 a5 a6 a7 : Int) (W : World) (i : Nat) (hi : i < 8) : Sem.run Tryd.prog (Instr.index 122 (Value.agg #[.int .u32 a0, .int .u32 a1, .int .u32 a2, .int .u32 a3, .int .u32 a4, .int .u32 a5, .int .u32 a6, .int .u32 a7]) (Value.int .i64 (i : Int))) W = .ok (.int .u32 (([a0, a1, a2, a3, a4, a5, a6, a7] : List Int).getD i 0)) W := by
  match i, hi with
  | 0, _ => go_simp; rfl
  | 1, _ => go_simp; rfl
  | 2, _ => go_simp; rfl
  | 3, _ => go_simp; rfl
  | 4, _ => go_simp; rfl
  | 5, _ => go_simp; rfl
  | 6, _ => go_simp; rfl
  | 7, _ => go_simp; rfl
set_option maxHeartbeats 400000 in
set_option maxRecDepth 100000 in
theorem hash_walk (s r : ByteArray) (w : World) (hL : ∀ j, j < 64 → w.cell? ⟨0, j, none⟩ = some (.int .u32 (roundKs.getD j 0))) (hs : s.size ≤ 40000000) (H : spec_l01Hash.v (bytesOf s) = some r) :
    Calls Tryd.prog 84 #[.string s] w fun e w' => e = .returned (.string r) ∧ Below w.heap.size w w' := by
  have h0 : 0 < w.heap.size := World.block_lt_of_cell? w _ (hL 0 (by decide))
  have HL := Aside0.mk hL
  have hxl : (bytesOf s).length = s.size := bytesOf_length s
  have H0 := Aside0.mk (hstart _ _ (by omega) H)
  have HX := Aside0.mk hxl
  clear hL H hxl
  go_enter Tryd.func84, Tryd.ntmps84
  go_wp2_with (first | ((with_reducible refine gate_dst (N := 9) rfl ?_); refine conv_hs 5 rfl 9 94 _ rfl s rfl Tryd.underlying9 Tryd.underlying94 Tryd.underlying5 ?_; intro g cap w1 F0; have F := Aside0.mk F0; clear F0) | ((with_reducible refine gate_builtin (b := .append) (xs := #[.tmp 9, .tmp 10]) rfl ?_); at_builtin; refine append1_hs (l := bytesOf s) 94 5 rfl (.tmp 9) (.tmp 10) rfl Tryd.underlying94 info5 128 (by rw [bytesOf_length]; rfl) rfl F.out (by rw [bytesOf_length]; omega) ?_; clear F; intro g' cap' w2 F0; have F := Aside0.mk F0; clear F0))
  have HG := Aside0.mk h0
  clear h0
  go_loopg [3] (56 + 64 - (s.size + 1) % 64) (fun gg v3 wr => ∃ (g cap : Nat) (l : List Int), (l.length + gg) % 64 = 56 ∧ l.length + gg ≤ 41000000 ∧ v3 = .slice (some ⟨g, 0, none⟩) l.length cap ∧ Aside0 (spec_l01Hash.lv0 (bytesOf s) hashIV l = some r) ∧ Aside0 (Hs w wr w.heap.size g cap l))
  case atStart => exact ⟨_, _, bytesOf s ++ [128], by rw [List.length_append, HX.out, List.length_singleton]; omega, by rw [List.length_append, HX.out, List.length_singleton]; omega, by simp, H0, F⟩
  case round =>
    clear F H0
    obtain ⟨g3, cap3, l, hm, hle, rfl, H0, F⟩ := hrel
    by_cases c : l.length % 64 = 56
    · have c1 : ((l.length : Int).tmod 64 = 56) := by rw [Int.tmod_eq_emod_of_nonneg (by omega)]; omega
      have H1 := Aside0.mk (hlen _ _ _ _ (by omega) (by have := HX.out; omega) (hpadded _ _ _ _ c H0.out))
      obtain ⟨ky, y, hky, hby, hys⟩ := num8 (wrap64 (8 * ((bytesOf s).length : Int)))
      rw [← hby] at H1
      have hw8 : wrap64 (8 * (s.size : Int)) = 8 * (s.size : Int) := by clear hky hby H1; exact w64n _ (by omega) (by omega)
      rw [HX.out, hw8] at hky
      clear hw8
      have HK := Aside0.mk hky
      clear hky hby H0
      have hlw : (8 * (s.size : Int)) ≤ 9223372036854775807 := by omega
      go_wp2_with (first | (go_at_call 85; with_reducible refine (impl_number.calls ky _ _ y _ HK.out).mono ?_; rintro e w5 ⟨rfl, hb5⟩; have HB5 := Aside0.mk hb5; clear hb5) | ((with_reducible refine gate_builtin (b := .append) (xs := #[.tmp 19, .tmp 23]) rfl ?_); at_builtin; refine appendS_hs (l := l) 94 9 5 rfl (.tmp 19) (.tmp 23) rfl Tryd.underlying94 Tryd.underlying9 info5 y (by rfl) rfl (by omega) (F.out.on HB5.out) (by omega) ?_; clear F HB5; intro g' cap' w2 F0; have F := Aside0.mk F0; clear F0))
      have HA : (l ++ bytesOf y).length = l.length + 8 := by rw [List.length_append, bytesOf_length, hys]
      rw [show (bytesOf y).length = 8 by rw [bytesOf_length, hys]]
      have FI : Aside0 (Ih w (w2.alloc (.cells #[.int .u32 1779033703, .int .u32 3144134277, .int .u32 1013904242, .int .u32 2773480762, .int .u32 1359893119, .int .u32 2600822924, .int .u32 528734635, .int .u32 1541459225] 122)) w.heap.size g' cap' w2.heap.size (l ++ bytesOf y) hashIV) := Aside0.mk (Ih.start F.out hashIV 122)
      clear F
      generalize w2.alloc _ = w6 at FI ⊢
      generalize w2.heap.size = gh at FI ⊢
      rw [← HA]
      generalize l ++ bytesOf y = al at HA H1 FI ⊢
      obtain ⟨K, hK⟩ : ∃ K, al.length = 64 * K := ⟨al.length / 64, by omega⟩
      have hKb : K ≤ 2000000 := by omega
      have hcap := FI.out.hs.row.room
      rw [hK] at hcap ⊢
      have HN := Aside0.mk hK
      clear HA hm hle hlw c1 c hK
      go_loopg [3] K (fun gg v3 wr => ∃ (m o ln cp : Nat) (hv : List Int), gg + m = K ∧ (0 < gg → o = 64 * m ∧ cp + o = cap') ∧ ln = 64 * gg ∧ v3 = .slice (some ⟨g', o, none⟩) ln cp ∧ hv.length = 8 ∧ Aside0 (spec_l01Hash.lv2 hv al roundKs ((64 * m : Nat) : Int) = some r) ∧ Aside0 (Ih w wr w.heap.size g' cap' gh al hv))
      case atStart => exact ⟨0, 0, _, _, _, by omega, fun _ => ⟨rfl, rfl⟩, rfl, rfl, rfl, H1, FI⟩
      case round =>
        clear FI H1
        obtain ⟨m, o, ln, cp, hv, hgm, hoc, hln, rfl, hh, H1, FI⟩ := hrel
        by_cases c : 0 < gk
        · obtain ⟨ho, hcp⟩ := hoc c
          have c1 : ((ln : Int) > 0) := by omega
          have c2 : (64 : Int) ≤ (ln : Int) := by omega
          have c3 : (64 : Int) ≤ (cp : Int) := by omega
          obtain ⟨h', e1, H2⟩ := hround hv al r m K HN.out hKb (by omega) H1.out
          have H2 := Aside0.mk H2
          rw [← ho] at e1
          have E1 := Aside0.mk e1
          have HO := Aside0.mk (And.intro ho (And.intro hln (And.intro hcp hgm)))
          clear e1 H1 ho hln hcp hgm hoc
          obtain ⟨a0, a1, a2, a3, a4, a5, a6, a7, rfl⟩ := eight hh
          obtain ⟨⟨c0, d1, d2, d3, d4, d5, d6, d7⟩, -⟩ := FI.out.ha.eight
          go_wp2
          refine wp_region_still_tail 3 (by kernel_rfl) (by kernel_rfl) ?_
          simp only [List.take_succ_cons, List.take_zero, List.drop_succ_cons, List.drop_zero]
          repeat still_step
          refine wpStill_nil ?_
          change wpList _ _ _ _ _ wr.drew
          have F3 := Aside0.mk FI.out.drew
          clear c0 d1 d2 d3 d4 d5 d6 d7 FI
          generalize wr.drew = w7 at F3 ⊢
          have hb7 : ∀ j, j < 64 → w7.cell? ⟨g', o + j, none⟩ = some (.int .u8 (((al.take (o + 64)).drop o).getD j 0)) := fun j hj => by
            rw [cut64 al o j hj]
            exact F3.out.hs.row.cell (o + j) (by have := HN.out; have := HO.out; omega)
          have hl7 : ∀ j, j < 64 → w7.cell? ⟨0, j, none⟩ = some (.int .u32 (roundKs.getD j 0)) := fun j hj =>
            (World.cell?_of_block (a := ⟨0, j, none⟩) (F3.out.hs.below.block 0 HG.out)).trans (HL.out j hj)
          have hbl7 : ((al.take (o + 64)).drop o).length = 64 := by have := HN.out; have := HO.out; rw [List.length_drop, List.length_take]; omega
          have HC := Aside0.mk (block_walk a0 a1 a2 a3 a4 a5 a6 a7 g' o cp _ roundKs h' w7 F3.out.hs.lt hbl7 (by have := HO.out; omega) hb7 hl7 rfl E1.out)
          clear hb7 hl7 hbl7
          go_wp2_with (go_at_call 121; with_reducible refine HC.out.mono ?_; rintro e w8 ⟨rfl, hb8, h8⟩; have HB8 := Aside0.mk hb8; clear hb8)
          have F8 := Aside0.mk (F3.out.on HB8.out)
          clear F3 HB8 HC
          obtain ⟨b0, b1, b2, b3, b4, b5, b6, b7, rfl⟩ := eight h8
          obtain ⟨⟨c0, d1, d2, d3, d4, d5, d6, d7⟩, ⟨f0, f1, f2, f3, f4, f5, f6, f7⟩⟩ := F8.out.ha.eight
          simp only [List.map_cons, List.map_nil]
          have hlc : (ln : Int) ≤ (cp : Int) := by have := HO.out; omega
          have hst : Sem.run Tryd.prog (storeCells ⟨gh, 0, none⟩ [.int .u32 b0, .int .u32 b1, .int .u32 b2, .int .u32 b3, .int .u32 b4, .int .u32 b5, .int .u32 b6, .int .u32 b7]) w8 = .ok () ((((((((w8.setCell ⟨gh, 0, none⟩ (.int .u32 b0)).setCell ⟨gh, 1, none⟩ (.int .u32 b1)).setCell ⟨gh, 2, none⟩ (.int .u32 b2)).setCell ⟨gh, 3, none⟩ (.int .u32 b3)).setCell ⟨gh, 4, none⟩ (.int .u32 b4)).setCell ⟨gh, 5, none⟩ (.int .u32 b5)).setCell ⟨gh, 6, none⟩ (.int .u32 b6)).setCell ⟨gh, 7, none⟩ (.int .u32 b7)) := by
            have := run_storeCells_cells (P := Tryd.prog) gh 0 [.int .u32 b0, .int .u32 b1, .int .u32 b2, .int .u32 b3, .int .u32 b4, .int .u32 b5, .int .u32 b6, .int .u32 b7] 0 w8 (fun j hj => by simp only [Nat.zero_add]; rw [F8.out.ha.cell j (by simpa using hj)]; rfl) (fun j hj => by simp only [Nat.zero_add]; exact F8.out.ha.free j (by simpa using hj)) (fun v hv => by simp only [List.mem_cons, List.not_mem_nil, or_false] at hv; rcases hv with rfl | rfl | rfl | rfl | rfl | rfl | rfl | rfl <;> rfl)
            exact this
          have F9 := Aside0.mk ((((((((F8.out.set 0 (by simp) b0).set 1 (by simp) b1).set 2 (by simp) b2).set 3 (by simp) b3).set 4 (by simp) b4).set 5 (by simp) b5).set 6 (by simp) b6).set 7 (by simp) b7)
          clear c0 d1 d2 d3 d4 d5 d6 d7 f0 f1 f2 f3 f4 f5 f6 f7
          rw [hst]
          clear hst
          generalize World.setCell (World.setCell (World.setCell (World.setCell (World.setCell (World.setCell (World.setCell (World.setCell w8 _ _) _ _) _ _) _ _) _ _) _ _) _ _) _ _ = w9 at F9 ⊢
          by_cases hc64 : cp = 64
          · have hl0 : ln = 64 := by have := HO.out; omega
            subst hc64
            subst hl0
            go_wp2
            go_roundg (gk - 1)
            case measure => omega
            case rel =>
              have := HO.out
              exact ⟨m + 1, o, 0, 0, [b0, b1, b2, b3, b4, b5, b6, b7], by omega, by omega, by omega, rfl, rfl, H2, F9⟩
          · have hc65 : (64 : Int) < (cp : Int) := by omega
            go_wp2
            go_roundg (gk - 1)
            case measure => omega
            case rel =>
              have := HO.out
              exact ⟨m + 1, o + 64, ln - 64, cp - 64, [b0, b1, b2, b3, b4, b5, b6, b7], by omega, by omega, by omega, rfl, rfl, H2, F9⟩
        · have hk0 : gk = 0 := by omega
          subst hk0
          have hln0 : ln = 0 := by omega
          subst hln0
          have H2 := Aside0.mk (hrounds hv al r _ (by have := HN.out; omega) H1.out)
          obtain ⟨a0, a1, a2, a3, a4, a5, a6, a7, rfl⟩ := eight hh
          obtain ⟨⟨c0, d1, d2, d3, d4, d5, d6, d7⟩, -⟩ := FI.out.ha.eight
          have hbel := Aside0.mk FI.out.hs.below
          clear H1 hoc hln FI
          go_wp2
          clear c0 d1 d2 d3 d4 d5 d6 d7
          go_loopg [5, 36] 8 (fun gg v5 v36 wr => ∃ (i : Nat) (ol : List Int), i ≤ 8 ∧ gg + i = 8 ∧ v36 = .int .i64 (i : Int) ∧ v5 = .string (strOfNums ol) ∧ ol.length = 4 * i ∧ Aside0 (spec_l01Hash.lv3 [a0, a1, a2, a3, a4, a5, a6, a7] ol (i : Int) = some r) ∧ Aside0 (Below w.heap.size w wr))
          case atStart => exact ⟨0, [], by omega, by omega, rfl, rfl, rfl, H2, hbel⟩
          case round =>
            clear H2 hbel
            obtain ⟨i, ol, hi, hg, rfl, rfl, hol, H2, hbel⟩ := hrel
            by_cases hlt : i < 8
            · have c1 : ((i : Int) < 8) := by omega
              have H3 := Aside0.mk (hout _ _ _ _ rfl hlt (by omega) H2.out)
              clear H2
              have hix := idx122 a0 a1 a2 a3 a4 a5 a6 a7 wr i hlt
              obtain ⟨x, hx⟩ : ∃ x, ([a0, a1, a2, a3, a4, a5, a6, a7] : List Int).getD i 0 = x := ⟨_, rfl⟩
              rw [hx] at hix H3
              clear hx
              obtain ⟨ky4, y4, hk4, hy4, hs4⟩ := num4s x
              have HK4 := Aside0.mk hk4
              have HY4 := Aside0.mk hy4
              clear hk4 hy4
              have hso : (strOfNums ol).size = ol.length := strsz ol
              have hcat : (strOfNums ol).size + y4.size ≤ 9223372036854775807 := by omega
              have hcat2 : ((strOfNums ol).size : Int) + (y4.size : Int) ≤ 9223372036854775807 := by omega
              have hcat3 : ¬ (9223372036854775807 < ((strOfNums ol).size : Int) + (y4.size : Int)) := by omega
              clear hso
              go_wp2_with (go_at_call 85; with_reducible refine (impl_number.calls ky4 _ _ y4 _ HK4.out).mono ?_; rintro e w5 ⟨rfl, hb5⟩; have HB5 := Aside0.mk hb5; clear hb5)
              go_roundg (8 - (i + 1))
              case measure => omega
              case rel => exact ⟨i + 1, _, by omega, by omega, by go_num, by rw [HY4.out, str_add], by rw [List.length_append, be4_len]; omega, H3, ⟨(hbel.out).trans (HB5.out.mono hbel.out.size)⟩⟩
            · have hlt2 : ¬ ((i : Int) < 8) := by omega
              have e := hdone _ _ _ _ hlt2 H2.out
              subst e
              go_wp2
              go_ret
              exact ⟨rfl, hbel.out⟩
    · have c1 : ¬ ((l.length : Int).tmod 64 = 56) := by rw [Int.tmod_eq_emod_of_nonneg (by omega)]; omega
      have H1 := Aside0.mk (hpad _ _ _ _ (by omega) c H0.out)
      clear H0
      go_wp2_with (first | ((with_reducible refine gate_builtin (b := .append) (xs := #[.tmp 16, .tmp 17]) rfl ?_); at_builtin; refine append1_hs (l := l) 94 5 rfl (.tmp 16) (.tmp 17) rfl Tryd.underlying94 info5 0 (by rfl) rfl F.out (by omega) ?_; clear F; intro g' cap' w2 F0; have F := Aside0.mk F0; clear F0))
      have hgk : 1 ≤ gk := by omega
      go_roundg (gk - 1)
      case measure => omega
      case rel => exact ⟨_, _, _, by rw [List.length_append, List.length_singleton]; omega, by rw [List.length_append, List.length_singleton]; omega, by simp, H1, F⟩
/-- The variable of the round's words, as the program's text lays it. -/
structure Laid (w : World) : Prop where
  cells : ∀ j, j < 64 → w.cell? ⟨0, j, none⟩ = some (.int .u32 (roundKs.getD j 0))
theorem Laid.on {w W : World} (h : Laid w) (b : Below w.heap.size w W) : Laid W :=
  ⟨fun j hj => (World.cell?_of_block (a := ⟨0, j, none⟩) (b.block 0 (World.block_lt_of_cell? w _ (h.cells 0 (by decide))))).trans (h.cells j hj)⟩
end Go.Proofs.YtdpdbegglkdgnaaDoor.A
end

section
namespace Go.Proofs.YtdpdbegglkdgnaaDoor.A
open Go.RowKit Go.Proofs.YtdpdbegglkdgnaaDoorW.PrintWords Go.Proofs.YtdpdbegglkdgnaaDoorW.PrintLast Go.Proofs.YtdpdbegglkdgnaaDoorW.PrintMore
attribute [local go_sem] max2_int min2_int max_two min_two max_three min_three max_four min_four
theorem impl_hash.calls (k : Nat) (a0 : ByteArray) (r : ByteArray) (w : World) (hL : Laid w) (h : impl_hash.f k a0 = some r) :
  Calls Tryd.prog 84 #[.string a0] w fun e w' => e = .returned (.string r) ∧ Below w.heap.size w w' := by
 unfold impl_hash.f at h
 by_cases c : a0.size ≤ 40000000
 ·rw [if_pos c] at h
  exact hash_walk a0 r w hL.cells c ((spec_l01Hash.v_lim _).up k r h)
 ·rw [if_neg c] at h
  cases h
set_option maxHeartbeats 8000000 in
set_option maxRecDepth 100000 in
theorem impl_mark.calls (k : Nat) (a0 : Int) (a1 : ByteArray) (r : ByteArray) (w : World) (hL : Laid w) (h : impl_mark.f k a0 a1 = some r) :
  Calls Tryd.prog 91 #[.int .i64 a0, .string a1] w fun e w' => e = .returned (.string r) ∧ Below w.heap.size w w' := by
 have HLD := am_ hL
 clear hL
 have HB := am_ (Below.refl w.heap.size w)
 have H : ((impl_number.f k a0 1).bind fun t250 => (if 8 + t250.size ≤ 9223372036854775807 then ((impl_hash.f k ((⟨#[110, 111, 100, 101, 32, 107, 101, 121]⟩ : ByteArray) ++ t250)).bind fun t251 => (if t251.size + a1.size ≤ 9223372036854775807 then ((impl_hash.f k (t251 ++ a1)).bind fun t252 => (if 0 ≤ 8 then (if 8 ≤ (t252.size : Int) then (some (t252.extract 0 8)) else (none)) else (none))) else (none))) else (none))) = some r := h
 clear h
 replace H := Option.bind_eq_some_iff.mp H
 obtain ⟨t250, A30, H⟩ := H
 replace H : (if 8 + t250.size ≤ 9223372036854775807 then ((impl_hash.f k ((⟨#[110, 111, 100, 101, 32, 107, 101, 121]⟩ : ByteArray) ++ t250)).bind fun t251 => (if t251.size + a1.size ≤ 9223372036854775807 then ((impl_hash.f k (t251 ++ a1)).bind fun t252 => (if 0 ≤ 8 then (if 8 ≤ (t252.size : Int) then (some (t252.extract 0 8)) else (none)) else (none))) else (none))) else (none)) = some r := H
 have A3 := am_ A30
 clear A30
 by_cases c4 : 8 + t250.size ≤ 9223372036854775807
 ·rw [if_pos c4] at H
  have c4b0 := eq_true c4
  have c4b1 : decide (8 + t250.size ≤ 9223372036854775807) = true := decide_eq_true c4
  try have c4b2 : (9223372036854775807 < 8 + t250.size) = False := eq_false (Nat.not_lt.2 c4)
  replace H := Option.bind_eq_some_iff.mp H
  obtain ⟨t251, A50, H⟩ := H
  replace H : (if t251.size + a1.size ≤ 9223372036854775807 then ((impl_hash.f k (t251 ++ a1)).bind fun t252 => (if 0 ≤ 8 then (if 8 ≤ (t252.size : Int) then (some (t252.extract 0 8)) else (none)) else (none))) else (none)) = some r := H
  have A5 := am_ A50
  clear A50
  by_cases c6 : t251.size + a1.size ≤ 9223372036854775807
  ·rw [if_pos c6] at H
   have c6b0 := eq_true c6
   have c6b1 : decide (t251.size + a1.size ≤ 9223372036854775807) = true := decide_eq_true c6
   try have c6b2 : (9223372036854775807 < t251.size + a1.size) = False := eq_false (Nat.not_lt.2 c6)
   replace H := Option.bind_eq_some_iff.mp H
   obtain ⟨t252, A70, H⟩ := H
   replace H : (if 0 ≤ 8 then (if 8 ≤ (t252.size : Int) then (some (t252.extract 0 8)) else (none)) else (none)) = some r := H
   have A7 := am_ A70
   clear A70
   by_cases c8 : 0 ≤ 8
   ·rw [if_pos c8] at H
    have c8b0 := eq_true c8
    have c8b1 : decide (0 ≤ 8) = true := decide_eq_true c8
    clear c8
    by_cases c9 : 8 ≤ (t252.size : Int)
    ·rw [if_pos c9] at H
     have c9b0 := eq_true c9
     have c9b1 : decide (8 ≤ (t252.size : Int)) = true := decide_eq_true c9
     clear c9
     obtain rfl := Option.some.inj H
     go_enter Tryd.func91, Tryd.ntmps91
     go_wp2_with (first | ((with_reducible refine gate_callee (f := 85) rfl ?_); refine goesL_ (some 6) rfl rfl Tryd.func85 (by kernel_rfl) rfl #[.int .i64 a0, .int .i64 1] rfl (by (try simp only [m1_, m2_, m3_]); first | done | rfl | (simp only [d1_, d2_]; rfl)) ?_; (with_reducible refine (impl_number.calls k a0 1 t250 _ A3.out).mono ?_); rintro e w10 ⟨rfl, hb⟩; refine ⟨_, rfl, ?_⟩; have n0_ := am_ (below_step (by repeat (first | (with_reducible first | exact HB.out | apply b1_ | apply b2_ | apply b3_) | exact HB.out)) hb); clear HB; have HB := n0_; clear n0_; (try clear hb); (try clear hb2); (try clear hk); (try clear hi)) | ((with_reducible refine gate_callee (f := 84) rfl ?_); refine goesL_ (some 8) rfl rfl Tryd.func84 (by kernel_rfl) rfl #[.string ((⟨#[110, 111, 100, 101, 32, 107, 101, 121]⟩ : ByteArray) ++ t250)] rfl (by (try simp only [m1_, m2_, m3_]); first | done | rfl | (simp only [d1_, d2_]; rfl)) ?_; (with_reducible refine (impl_hash.calls k ((⟨#[110, 111, 100, 101, 32, 107, 101, 121]⟩ : ByteArray) ++ t250) t251 _ ?side1 A5.out).mono ?_); (case side1 => exact HLD.out.on (by repeat (first | (with_reducible first | exact HB.out | apply b1_ | apply b2_ | apply b3_) | exact HB.out))); rintro e w11 ⟨rfl, hb⟩; refine ⟨_, rfl, ?_⟩; have n0_ := am_ (below_step (by repeat (first | (with_reducible first | exact HB.out | apply b1_ | apply b2_ | apply b3_) | exact HB.out)) hb); clear HB; have HB := n0_; clear n0_; (try clear hb); (try clear hb2); (try clear hk); (try clear hi)) | ((with_reducible refine gate_callee (f := 84) rfl ?_); refine goesL_ (some 11) rfl rfl Tryd.func84 (by kernel_rfl) rfl #[.string (t251 ++ a1)] rfl (by (try simp only [m1_, m2_, m3_]); first | done | rfl | (simp only [d1_, d2_]; rfl)) ?_; (with_reducible refine (impl_hash.calls k (t251 ++ a1) t252 _ ?side1 A7.out).mono ?_); (case side1 => exact HLD.out.on (by repeat (first | (with_reducible first | exact HB.out | apply b1_ | apply b2_ | apply b3_) | exact HB.out))); rintro e w12 ⟨rfl, hb⟩; refine ⟨_, rfl, ?_⟩; have n0_ := am_ (below_step (by repeat (first | (with_reducible first | exact HB.out | apply b1_ | apply b2_ | apply b3_) | exact HB.out)) hb); clear HB; have HB := n0_; clear n0_; (try clear hb); (try clear hb2); (try clear hk); (try clear hi)))
     go_ret
     exact ⟨by first | rfl | (simp [e1_, e2_] <;> rfl) | (simp [*, e1_, e2_] <;> rfl) | (simp [e3_, e4_]; done) | (simp [*, e3_, e4_]; done), by repeat (first | (with_reducible first | exact HB.out | apply b1_ | apply b2_ | apply b3_) | exact HB.out)⟩
    ·rw [if_neg c9] at H
     exact absurd H (by simp)
   ·rw [if_neg c8] at H
    exact absurd H (by simp)
  ·rw [if_neg c6] at H
   exact absurd H (by simp)
 ·rw [if_neg c4] at H
  exact absurd H (by simp)
def impl_replyMac.T1 : Bool × List (List Nat × List Nat) := (true, [([], []), ([0], [0]), ([], []), ([2], [2]), ([3], [3]), ([4], [4]), ([], []), ([6], [6]), ([7, 4], [7]), ([5, 8], [5, 8]), ([], []), ([10], [10]), ([11, 8], [11]), ([9, 12], [9, 12]), ([1, 13, 12], [1, 13]), ([14, 14, 0, 1, 2, 3, 4, 5, 6, 7, 8, 9, 10, 11, 12, 13, 14], [14])])
def impl_replyMac.B1 : List Nat := [0, 1, 0, 4, 12, 28, 0, 64, 220, 508, 0, 1024, 3548, 8188, 16383, 32767]
theorem impl_replyMac.tab1 : rtab .any (opsOf Tryd.f57 1) = impl_replyMac.T1 := by kernel_rfl
theorem impl_replyMac.bits1 : waitsOk impl_replyMac.T1.2 impl_replyMac.B1 = true := by kernel_rfl
set_option maxHeartbeats 8000000 in
set_option maxRecDepth 100000 in
theorem impl_replyMac.calls (k : Nat) (a0_0 : Int) (a0_1 : Int) (a0_2 : Int) (a0_3 : Int) (a0_4 : Int) (a0_5 : Int) (a0_6 : Int) (a0_7 : ByteArray) (r : ByteArray) (w : World) (hL : Laid w) (h : impl_replyMac.f k a0_0 a0_1 a0_2 a0_3 a0_4 a0_5 a0_6 a0_7 = some r) :
  Calls Tryd.prog 57 #[.agg #[.int .i64 a0_0, .int .i64 a0_1, .int .i64 a0_2, .int .i64 a0_3, .int .i64 a0_4, .int .i64 a0_5, .int .i64 a0_6, .string a0_7]] w fun e w' => e = .returned (.string r) ∧ Below w.heap.size w w' := by
 have hu35 := Tryd.underlying35
 have hu33 := Tryd.underlying33
 have HLD := am_ hL
 clear hL
 have HB := am_ (Below.refl w.heap.size w)
 have H : ((impl_number.f k a0_1 1).bind fun t346 => (if 5 + t346.size ≤ 9223372036854775807 then ((impl_number.f k a0_2 2).bind fun t347 => (if ((⟨#[114, 101, 112, 108, 121]⟩ : ByteArray) ++ t346).size + t347.size ≤ 9223372036854775807 then ((impl_answerText.f k a0_3 a0_4 a0_5 a0_6).bind fun t348 => (if (((⟨#[114, 101, 112, 108, 121]⟩ : ByteArray) ++ t346) ++ t347).size + t348.size ≤ 9223372036854775807 then ((impl_mark.f k a0_0 ((((⟨#[114, 101, 112, 108, 121]⟩ : ByteArray) ++ t346) ++ t347) ++ t348)).bind fun t349 => (some t349)) else (none))) else (none))) else (none))) = some r := h
 clear h
 replace H := Option.bind_eq_some_iff.mp H
 obtain ⟨t346, A20, H⟩ := H
 replace H : (if 5 + t346.size ≤ 9223372036854775807 then ((impl_number.f k a0_2 2).bind fun t347 => (if ((⟨#[114, 101, 112, 108, 121]⟩ : ByteArray) ++ t346).size + t347.size ≤ 9223372036854775807 then ((impl_answerText.f k a0_3 a0_4 a0_5 a0_6).bind fun t348 => (if (((⟨#[114, 101, 112, 108, 121]⟩ : ByteArray) ++ t346) ++ t347).size + t348.size ≤ 9223372036854775807 then ((impl_mark.f k a0_0 ((((⟨#[114, 101, 112, 108, 121]⟩ : ByteArray) ++ t346) ++ t347) ++ t348)).bind fun t349 => (some t349)) else (none))) else (none))) else (none)) = some r := H
 have A2 := am_ A20
 clear A20
 by_cases c3 : 5 + t346.size ≤ 9223372036854775807
 ·rw [if_pos c3] at H
  have c3b0 := eq_true c3
  have c3b1 : decide (5 + t346.size ≤ 9223372036854775807) = true := decide_eq_true c3
  try have c3b2 : (9223372036854775807 < 5 + t346.size) = False := eq_false (Nat.not_lt.2 c3)
  replace H := Option.bind_eq_some_iff.mp H
  obtain ⟨t347, A40, H⟩ := H
  replace H : (if ((⟨#[114, 101, 112, 108, 121]⟩ : ByteArray) ++ t346).size + t347.size ≤ 9223372036854775807 then ((impl_answerText.f k a0_3 a0_4 a0_5 a0_6).bind fun t348 => (if (((⟨#[114, 101, 112, 108, 121]⟩ : ByteArray) ++ t346) ++ t347).size + t348.size ≤ 9223372036854775807 then ((impl_mark.f k a0_0 ((((⟨#[114, 101, 112, 108, 121]⟩ : ByteArray) ++ t346) ++ t347) ++ t348)).bind fun t349 => (some t349)) else (none))) else (none)) = some r := H
  have A4 := am_ A40
  clear A40
  by_cases c5 : ((⟨#[114, 101, 112, 108, 121]⟩ : ByteArray) ++ t346).size + t347.size ≤ 9223372036854775807
  ·rw [if_pos c5] at H
   have c5b0 := eq_true c5
   have c5b1 : decide (((⟨#[114, 101, 112, 108, 121]⟩ : ByteArray) ++ t346).size + t347.size ≤ 9223372036854775807) = true := decide_eq_true c5
   try have c5b2 : (9223372036854775807 < ((⟨#[114, 101, 112, 108, 121]⟩ : ByteArray) ++ t346).size + t347.size) = False := eq_false (Nat.not_lt.2 c5)
   (try have c5b3 := c5b2; simp only [ByteArray.size_append, show (⟨#[114, 101, 112, 108, 121]⟩ : ByteArray).size = 5 from rfl] at c5b3)
   replace H := Option.bind_eq_some_iff.mp H
   obtain ⟨t348, A60, H⟩ := H
   replace H : (if (((⟨#[114, 101, 112, 108, 121]⟩ : ByteArray) ++ t346) ++ t347).size + t348.size ≤ 9223372036854775807 then ((impl_mark.f k a0_0 ((((⟨#[114, 101, 112, 108, 121]⟩ : ByteArray) ++ t346) ++ t347) ++ t348)).bind fun t349 => (some t349)) else (none)) = some r := H
   have A6 := am_ A60
   clear A60
   by_cases c7 : (((⟨#[114, 101, 112, 108, 121]⟩ : ByteArray) ++ t346) ++ t347).size + t348.size ≤ 9223372036854775807
   ·rw [if_pos c7] at H
    have c7b0 := eq_true c7
    have c7b1 : decide ((((⟨#[114, 101, 112, 108, 121]⟩ : ByteArray) ++ t346) ++ t347).size + t348.size ≤ 9223372036854775807) = true := decide_eq_true c7
    try have c7b2 : (9223372036854775807 < (((⟨#[114, 101, 112, 108, 121]⟩ : ByteArray) ++ t346) ++ t347).size + t348.size) = False := eq_false (Nat.not_lt.2 c7)
    (try have c7b3 := c7b2; simp only [ByteArray.size_append, show (⟨#[114, 101, 112, 108, 121]⟩ : ByteArray).size = 5 from rfl] at c7b3)
    replace H := Option.bind_eq_some_iff.mp H
    obtain ⟨t349, A80, H⟩ := H
    replace H : (some t349) = some r := H
    have A8 := am_ A80
    clear A80
    obtain rfl := Option.some.inj H
    go_enter Tryd.func57, Tryd.ntmps57
    try go_wp2_with (first | ((with_reducible refine gate_dst (N := 1) rfl ?_); refine box_event ?hg (N := 1) ?hd (cs := #[.int .i64 a0_0, .int .i64 a0_1, .int .i64 a0_2, .int .i64 a0_3, .int .i64 a0_4, .int .i64 a0_5, .int .i64 a0_6, .string a0_7]) (t := 35) ?hr ?_; (case hd => rfl); (case hg => rfl); (case hr => first | (go_simp; done) | (go_simp; rfl)); intro gb345 hg w9 hbox hb; have n0_ := am_ (below_step (by repeat (first | (with_reducible first | exact HB.out | apply b1_ | apply b2_ | apply b3_) | exact HB.out)) hb); have n1_ := am_ (hbox); have n2_ := am_ ((by rw [hg]; exact (below_size (by repeat (first | (with_reducible first | exact HB.out | apply b1_ | apply b2_ | apply b3_) | exact HB.out))) : w.heap.size ≤ gb345)); have n3_ := am_ ((by rw [hg]; exact (below_size (by repeat (first | (with_reducible first | exact HB.out | apply b1_ | apply b2_ | apply b3_) | exact HB.out))) : w.heap.size ≤ gb345)); clear HB; have HB := n0_; have BK345 := n1_; have GW345 := n2_; have GE345 := n3_; clear n0_ n1_ n2_ n3_; clear hb hbox hg))
    have n0_ := am_ (blk_drew BK345.out)
    have n1_ := am_ (below_drew1 HB.out)
    clear BK345
    clear HB
    have BK345 := n0_
    have HB := n1_
    clear n0_ n1_
    refine start_ (n := 16) (S := fun w' => w'.cell? ⟨gb345, 0, none⟩ = some (.int .i64 a0_0) ∧ w'.cell? ⟨gb345, 1, none⟩ = some (.int .i64 a0_1) ∧ w'.cell? ⟨gb345, 2, none⟩ = some (.int .i64 a0_2) ∧ w'.cell? ⟨gb345, 3, none⟩ = some (.int .i64 a0_3) ∧ w'.cell? ⟨gb345, 4, none⟩ = some (.int .i64 a0_4) ∧ w'.cell? ⟨gb345, 5, none⟩ = some (.int .i64 a0_5) ∧ w'.cell? ⟨gb345, 6, none⟩ = some (.int .i64 a0_6) ∧ w'.cell? ⟨gb345, 7, none⟩ = some (.string a0_7)) (ds := []) #[false, false, false, false, false, false, false, false, false, false, false, false, false, false, false, false] (by kernel_rfl) rfl rfl ⟨(blk_cell BK345.out 0).trans rfl, (blk_cell BK345.out 1).trans rfl, (blk_cell BK345.out 2).trans rfl, (blk_cell BK345.out 3).trans rfl, (blk_cell BK345.out 4).trans rfl, (blk_cell BK345.out 5).trans rfl, (blk_cell BK345.out 6).trans rfl, (blk_cell BK345.out 7).trans rfl⟩ (fun hHeld => ?_); refine with_tabW impl_replyMac.tab1 impl_replyMac.bits1 (fun HT_ HW_ => ?_)
    generalize w9.drew = w10 at BK345 HB hHeld ⊢
    refine pure_ (i := 0) (N := some 3) (v := ?_) (a' := ?_) #[true, false, false, false, false, false, false, false, false, false, false, false, false, false, false, false] rfl rfl (any_of HT_.out (by kernel_rfl)) (fun _ _ _ h => h) (Or.inl ⟨by rfl, ?_⟩) ?_ ?_
    rotate_left
    ·intro w'
     go_simp
     with_reducible rfl
    rotate_left
    ·simp only [Act.put, p1_, p2_, p3_, i64_w, i32_w]
     rfl
    refine pure_ (i := 2) (N := some 5) (v := ?_) (a' := ?_) #[true, false, true, false, false, false, false, false, false, false, false, false, false, false, false, false] rfl rfl (any_of HT_.out (by kernel_rfl)) (fun _ _ _ h => h) (Or.inl ⟨by rfl, ?_⟩) ?_ ?_
    rotate_left
    ·intro w'
     go_simp
     with_reducible rfl
    rotate_left
    ·simp only [Act.put, p1_, p2_, p3_, i64_w, i32_w]
     rfl
    refine pure_ (i := 6) (N := some 9) (v := ?_) (a' := ?_) #[true, false, true, false, false, false, true, false, false, false, false, false, false, false, false, false] rfl rfl (any_of HT_.out (by kernel_rfl)) (fun _ _ _ h => h) (Or.inl ⟨by rfl, ?_⟩) ?_ ?_
    rotate_left
    ·intro w'
     go_simp
     with_reducible rfl
    rotate_left
    ·simp only [Act.put, p1_, p2_, p3_, i64_w, i32_w]
     rfl
    refine pure_ (i := 10) (N := some 13) (v := ?_) (a' := ?_) #[true, false, true, false, false, false, true, false, false, false, true, false, false, false, false, false] rfl rfl (any_of HT_.out (by kernel_rfl)) (fun _ _ _ h => h) (Or.inl ⟨by rfl, ?_⟩) ?_ ?_
    rotate_left
    ·intro w'
     go_simp
     with_reducible rfl
    rotate_left
    ·simp only [Act.put, p1_, p2_, p3_, i64_w, i32_w]
     rfl
    refine take_ (i := 1) (N := some 4) (v := ?_) (a' := ?_) #[true, true, true, false, false, false, true, false, false, false, true, false, false, false, false, false] rfl rfl (take_ofW HT_.out HW_.out (by kernel_rfl)) (fun _ _ _ h => h) (Or.inl ⟨by rfl, ?_⟩) hHeld ?_ ?_
    rotate_left
    ·rintro w' ⟨s0, s1, s2, s3, s4, s5, s6, s7⟩
     go_simp
     with_reducible rfl
    rotate_left
    ·simp only [Act.put, p1_, p2_, p3_, i64_w, i32_w]
     rfl
    refine take_ (i := 3) (N := some 6) (v := ?_) (a' := ?_) #[true, true, true, true, false, false, true, false, false, false, true, false, false, false, false, false] rfl rfl (take_ofW HT_.out HW_.out (by kernel_rfl)) (fun _ _ _ h => h) (Or.inl ⟨by rfl, ?_⟩) hHeld ?_ ?_
    rotate_left
    ·rintro w' ⟨s0, s1, s2, s3, s4, s5, s6, s7⟩
     go_simp
     with_reducible rfl
    rotate_left
    ·simp only [Act.put, p1_, p2_, p3_, i64_w, i32_w]
     rfl
    refine take_ (i := 7) (N := some 10) (v := ?_) (a' := ?_) #[true, true, true, true, false, false, true, true, false, false, true, false, false, false, false, false] rfl rfl (take_ofW HT_.out HW_.out (by kernel_rfl)) (fun _ _ _ h => h) (Or.inl ⟨by rfl, ?_⟩) hHeld ?_ ?_
    rotate_left
    ·rintro w' ⟨s0, s1, s2, s3, s4, s5, s6, s7⟩
     go_simp
     with_reducible rfl
    rotate_left
    ·simp only [Act.put, p1_, p2_, p3_, i64_w, i32_w]
     rfl
    refine take_ (i := 11) (N := some 14) (v := ?_) (a' := ?_) #[true, true, true, true, false, false, true, true, false, false, true, true, false, false, false, false] rfl rfl (take_ofW HT_.out HW_.out (by kernel_rfl)) (fun _ _ _ h => h) (Or.inl ⟨by rfl, ?_⟩) hHeld ?_ ?_
    rotate_left
    ·rintro w' ⟨s0, s1, s2, s3, s4, s5, s6, s7⟩
     go_simp
     with_reducible rfl
    rotate_left
    ·simp only [Act.put, p1_, p2_, p3_, i64_w, i32_w]
     rfl
    refine one_ (i := 4) (N := some 7) #[true, true, true, true, true, false, true, true, false, false, true, true, false, false, false, false] rfl rfl (one_of HT_.out (by kernel_rfl)) (by decide) (fun K hK => ?_)
    refine goes_ Tryd.func85 (by kernel_rfl) rfl #[.int .i64 a0_1, .int .i64 1] (by rfl) rfl rfl (by (try simp only [m1_, m2_, m3_]); first | done | rfl | (simp only [d1_, d2_]; rfl)) ?_
    with_reducible refine (impl_number.calls k a0_1 1 t346 _ A2.out).mono ?_
    rintro e w11 ⟨rfl, hb⟩
    refine ⟨_, rfl, ?_⟩
    have n0_ := am_ (blk_below (g := gb345) (o := .cells #[.int .i64 a0_0, .int .i64 a0_1, .int .i64 a0_2, .int .i64 a0_3, .int .i64 a0_4, .int .i64 a0_5, .int .i64 a0_6, .string a0_7] 35 (0, 0)) (by (with_reducible repeat (first | apply k1_ | apply k2_ | apply k3_)); exact BK345.out) hb)
    have n1_ := am_ (below_step (by repeat (first | (with_reducible first | exact HB.out | apply b1_ | apply b2_ | apply b3_ | refine below_set ?_ GE345.out) | exact HB.out)) hb)
    clear BK345
    clear HB
    have BK345 := n0_
    have HB := n1_
    clear n0_ n1_
    (try clear hb)
    (try clear hb2)
    (try clear hk)
    (try clear hi)
    refine hK.out _ _ ⟨(blk_cell BK345.out 0).trans rfl, (blk_cell BK345.out 1).trans rfl, (blk_cell BK345.out 2).trans rfl, (blk_cell BK345.out 3).trans rfl, (blk_cell BK345.out 4).trans rfl, (blk_cell BK345.out 5).trans rfl, (blk_cell BK345.out 6).trans rfl, (blk_cell BK345.out 7).trans rfl⟩ (fun hHeld => ?_)
    clear hK K
    refine norm_ (a' := ?_) ?_ ?_
    rotate_left
    ·show Act.put _ (some 7) _ = _
     simp only [Act.put, p1_, p2_, p3_, i64_w, i32_w]
     rfl
    refine pure_ (i := 5) (N := some 8) (v := ?_) (a' := ?_) #[true, true, true, true, true, true, true, true, false, false, true, true, false, false, false, false] rfl rfl (any_of HT_.out (by kernel_rfl)) (fun _ _ _ h => h) (Or.inl ⟨by rfl, ?_⟩) ?_ ?_
    rotate_left
    ·intro w'
     go_simp
     with_reducible rfl
    rotate_left
    ·simp only [Act.put, p1_, p2_, p3_, i64_w, i32_w]
     rfl
    refine one_ (i := 8) (N := some 11) #[true, true, true, true, true, true, true, true, true, false, true, true, false, false, false, false] rfl rfl (one_of HT_.out (by kernel_rfl)) (by decide) (fun K hK => ?_)
    refine goes_ Tryd.func85 (by kernel_rfl) rfl #[.int .i64 a0_2, .int .i64 2] (by rfl) rfl rfl (by (try simp only [m1_, m2_, m3_]); first | done | rfl | (simp only [d1_, d2_]; rfl)) ?_
    with_reducible refine (impl_number.calls k a0_2 2 t347 _ A4.out).mono ?_
    rintro e w12 ⟨rfl, hb⟩
    refine ⟨_, rfl, ?_⟩
    have n0_ := am_ (blk_below (g := gb345) (o := .cells #[.int .i64 a0_0, .int .i64 a0_1, .int .i64 a0_2, .int .i64 a0_3, .int .i64 a0_4, .int .i64 a0_5, .int .i64 a0_6, .string a0_7] 35 (0, 0)) (by (with_reducible repeat (first | apply k1_ | apply k2_ | apply k3_)); exact BK345.out) hb)
    have n1_ := am_ (below_step (by repeat (first | (with_reducible first | exact HB.out | apply b1_ | apply b2_ | apply b3_ | refine below_set ?_ GE345.out) | exact HB.out)) hb)
    clear BK345
    clear HB
    have BK345 := n0_
    have HB := n1_
    clear n0_ n1_
    (try clear hb)
    (try clear hb2)
    (try clear hk)
    (try clear hi)
    refine hK.out _ _ ⟨(blk_cell BK345.out 0).trans rfl, (blk_cell BK345.out 1).trans rfl, (blk_cell BK345.out 2).trans rfl, (blk_cell BK345.out 3).trans rfl, (blk_cell BK345.out 4).trans rfl, (blk_cell BK345.out 5).trans rfl, (blk_cell BK345.out 6).trans rfl, (blk_cell BK345.out 7).trans rfl⟩ (fun hHeld => ?_)
    clear hK K
    refine norm_ (a' := ?_) ?_ ?_
    rotate_left
    ·show Act.put _ (some 11) _ = _
     simp only [Act.put, p1_, p2_, p3_, i64_w, i32_w]
     rfl
    refine pure_ (i := 9) (N := some 12) (v := ?_) (a' := ?_) #[true, true, true, true, true, true, true, true, true, true, true, true, false, false, false, false] rfl rfl (any_of HT_.out (by kernel_rfl)) (fun _ _ _ h => h) (Or.inl ⟨by rfl, ?_⟩) ?_ ?_
    rotate_left
    ·intro w'
     go_simp
     with_reducible rfl
    rotate_left
    ·simp only [Act.put, p1_, p2_, p3_, i64_w, i32_w]
     rfl
    refine one_ (i := 12) (N := some 15) #[true, true, true, true, true, true, true, true, true, true, true, true, true, false, false, false] rfl rfl (one_of HT_.out (by kernel_rfl)) (by decide) (fun K hK => ?_)
    refine goes_ Tryd.func95 (by kernel_rfl) rfl #[.agg #[.int .i64 a0_3, .int .i64 a0_4, .int .i64 a0_5, .int .i64 a0_6]] (by rfl) rfl rfl (by (try simp only [m1_, m2_, m3_]); first | done | rfl | (simp only [d1_, d2_]; rfl)) ?_
    with_reducible refine (impl_answerText.calls k a0_3 a0_4 a0_5 a0_6 t348 _ A6.out).mono ?_
    rintro e w13 ⟨rfl, hb⟩
    refine ⟨_, rfl, ?_⟩
    have n0_ := am_ (blk_below (g := gb345) (o := .cells #[.int .i64 a0_0, .int .i64 a0_1, .int .i64 a0_2, .int .i64 a0_3, .int .i64 a0_4, .int .i64 a0_5, .int .i64 a0_6, .string a0_7] 35 (0, 0)) (by (with_reducible repeat (first | apply k1_ | apply k2_ | apply k3_)); exact BK345.out) hb)
    have n1_ := am_ (below_step (by repeat (first | (with_reducible first | exact HB.out | apply b1_ | apply b2_ | apply b3_ | refine below_set ?_ GE345.out) | exact HB.out)) hb)
    clear BK345
    clear HB
    have BK345 := n0_
    have HB := n1_
    clear n0_ n1_
    (try clear hb)
    (try clear hb2)
    (try clear hk)
    (try clear hi)
    refine hK.out _ _ ⟨(blk_cell BK345.out 0).trans rfl, (blk_cell BK345.out 1).trans rfl, (blk_cell BK345.out 2).trans rfl, (blk_cell BK345.out 3).trans rfl, (blk_cell BK345.out 4).trans rfl, (blk_cell BK345.out 5).trans rfl, (blk_cell BK345.out 6).trans rfl, (blk_cell BK345.out 7).trans rfl⟩ (fun hHeld => ?_)
    clear hK K
    refine norm_ (a' := ?_) ?_ ?_
    rotate_left
    ·show Act.put _ (some 15) _ = _
     simp only [Act.put, p1_, p2_, p3_, i64_w, i32_w]
     rfl
    refine pure_ (i := 13) (N := some 16) (v := ?_) (a' := ?_) #[true, true, true, true, true, true, true, true, true, true, true, true, true, true, false, false] rfl rfl (any_of HT_.out (by kernel_rfl)) (fun _ _ _ h => h) (Or.inl ⟨by rfl, ?_⟩) ?_ ?_
    rotate_left
    ·intro w'
     go_simp
     with_reducible rfl
    rotate_left
    ·simp only [Act.put, p1_, p2_, p3_, i64_w, i32_w]
     rfl
    refine one_ (i := 14) (N := some 17) #[true, true, true, true, true, true, true, true, true, true, true, true, true, true, true, false] rfl rfl (one_of HT_.out (by kernel_rfl)) (by decide) (fun K hK => ?_)
    refine goes_ Tryd.func91 (by kernel_rfl) rfl #[.int .i64 a0_0, .string ((((⟨#[114, 101, 112, 108, 121]⟩ : ByteArray) ++ t346) ++ t347) ++ t348)] (by rfl) rfl rfl (by (try simp only [m1_, m2_, m3_]); first | done | rfl | (simp only [d1_, d2_]; rfl)) ?_
    with_reducible refine (impl_mark.calls k a0_0 ((((⟨#[114, 101, 112, 108, 121]⟩ : ByteArray) ++ t346) ++ t347) ++ t348) t349 _ ?side1 A8.out).mono ?_
    (case side1 => exact HLD.out.on (by repeat (first | (with_reducible first | exact HB.out | apply b1_ | apply b2_ | apply b3_ | refine below_set ?_ GE345.out) | exact HB.out)))
    rintro e w14 ⟨rfl, hb⟩
    refine ⟨_, rfl, ?_⟩
    have n0_ := am_ (blk_below (g := gb345) (o := .cells #[.int .i64 a0_0, .int .i64 a0_1, .int .i64 a0_2, .int .i64 a0_3, .int .i64 a0_4, .int .i64 a0_5, .int .i64 a0_6, .string a0_7] 35 (0, 0)) (by (with_reducible repeat (first | apply k1_ | apply k2_ | apply k3_)); exact BK345.out) hb)
    have n1_ := am_ (below_step (by repeat (first | (with_reducible first | exact HB.out | apply b1_ | apply b2_ | apply b3_ | refine below_set ?_ GE345.out) | exact HB.out)) hb)
    clear BK345
    clear HB
    have BK345 := n0_
    have HB := n1_
    clear n0_ n1_
    (try clear hb)
    (try clear hb2)
    (try clear hk)
    (try clear hi)
    refine hK.out _ _ ⟨(blk_cell BK345.out 0).trans rfl, (blk_cell BK345.out 1).trans rfl, (blk_cell BK345.out 2).trans rfl, (blk_cell BK345.out 3).trans rfl, (blk_cell BK345.out 4).trans rfl, (blk_cell BK345.out 5).trans rfl, (blk_cell BK345.out 6).trans rfl, (blk_cell BK345.out 7).trans rfl⟩ (fun hHeld => ?_)
    clear hK K
    refine norm_ (a' := ?_) ?_ ?_
    rotate_left
    ·show Act.put _ (some 17) _ = _
     simp only [Act.put, p1_, p2_, p3_, i64_w, i32_w]
     rfl
    refine pure_ (i := 15) (N := some 2) (v := ?_) (a' := ?_) #[true, true, true, true, true, true, true, true, true, true, true, true, true, true, true, true] rfl rfl (any_of HT_.out (by kernel_rfl)) (fun _ _ _ h => h) (Or.inl ⟨by rfl, ?_⟩) ?_ ?_
    rotate_left
    ·intro w'
     go_simp
     with_reducible rfl
    rotate_left
    ·simp only [Act.put, p1_, p2_, p3_, i64_w, i32_w]
     rfl
    refine done_ (done_of HT_.out (by kernel_rfl)) ?_
    try go_wp2
    go_ret
    exact ⟨by first | rfl | (simp [e1_, e2_] <;> rfl) | (simp [*, e1_, e2_] <;> rfl) | (simp [e3_, e4_]; done) | (simp [*, e3_, e4_]; done), by repeat (first | (with_reducible first | exact HB.out | apply b1_ | apply b2_ | apply b3_ | refine below_set ?_ GE345.out) | exact HB.out)⟩
   ·rw [if_neg c7] at H
    exact absurd H (by simp)
  ·rw [if_neg c5] at H
   exact absurd H (by simp)
 ·rw [if_neg c3] at H
  exact absurd H (by simp)
set_option maxHeartbeats 8000000 in
set_option maxRecDepth 100000 in
theorem impl_MakeReply.calls (k : Nat) (a0 : Int) (a1 : Int) (a2 : Int) (a3_0 : Int) (a3_1 : Int) (a3_2 : Int) (a3_3 : Int) (r1 : Int) (r2 : Int) (r3 : Int) (r4 : Int) (r5 : Int) (r6 : Int) (r7 : Int) (r8 : ByteArray) (r9 : Int) (w : World) (hL : Laid w) (h : impl_MakeReply.f k a0 a1 a2 a3_0 a3_1 a3_2 a3_3 = some (r1, r2, r3, r4, r5, r6, r7, r8, r9)) :
  Calls Tryd.prog 27 #[.int .i64 a0, .int .i64 a1, .int .i64 a2, .agg #[.int .i64 a3_0, .int .i64 a3_1, .int .i64 a3_2, .int .i64 a3_3]] w fun e w' => e = .returned (.tuple #[.agg #[.int .i64 r1, .int .i64 r2, .int .i64 r3, .int .i64 r4, .int .i64 r5, .int .i64 r6, .int .i64 r7, .string r8], .int .i64 r9]) ∧ Below w.heap.size w w' := by
 have hu33 := Tryd.underlying33
 have hu35 := Tryd.underlying35
 have HLD := am_ hL
 clear hL
 have HB := am_ (Below.refl w.heap.size w)
 have H : ((impl_isReply.f a0 a1 a2 a3_0 a3_1 a3_2 a3_3 (⟨#[]⟩ : ByteArray)).bind fun t508 => (if t508 = true then ((impl_replyMac.f k a0 a1 a2 a3_0 a3_1 a3_2 a3_3 (⟨#[]⟩ : ByteArray)).bind fun t509 => (some (a0, a1, a2, a3_0, a3_1, a3_2, a3_3, t509, 0))) else (some (0, 0, 0, 0, 0, 0, 0, (⟨#[]⟩ : ByteArray), 1)))) = some (r1, r2, r3, r4, r5, r6, r7, r8, r9) := h
 clear h
 replace H := Option.bind_eq_some_iff.mp H
 obtain ⟨t508, A50, H⟩ := H
 replace H : (if t508 = true then ((impl_replyMac.f k a0 a1 a2 a3_0 a3_1 a3_2 a3_3 (⟨#[]⟩ : ByteArray)).bind fun t509 => (some (a0, a1, a2, a3_0, a3_1, a3_2, a3_3, t509, 0))) else (some (0, 0, 0, 0, 0, 0, 0, (⟨#[]⟩ : ByteArray), 1))) = some (r1, r2, r3, r4, r5, r6, r7, r8, r9) := H
 have A5 := am_ A50
 clear A50
 by_cases c6 : t508 = true
 ·subst c6
  have H1 : ((impl_replyMac.f k a0 a1 a2 a3_0 a3_1 a3_2 a3_3 (⟨#[]⟩ : ByteArray)).bind fun t509 => (some (a0, a1, a2, a3_0, a3_1, a3_2, a3_3, t509, 0))) = some (r1, r2, r3, r4, r5, r6, r7, r8, r9) := by rw [if_pos rfl] at H; exact H
  clear H
  have H := H1
  clear H1
  replace H := Option.bind_eq_some_iff.mp H
  obtain ⟨t509, A70, H⟩ := H
  replace H : (some (a0, a1, a2, a3_0, a3_1, a3_2, a3_3, t509, 0)) = some (r1, r2, r3, r4, r5, r6, r7, r8, r9) := H
  have A7 := am_ A70
  clear A70
  simp only [Option.some.injEq, Prod.mk.injEq] at H
  obtain ⟨rfl, rfl, rfl, rfl, rfl, rfl, rfl, rfl, rfl⟩ := H
  go_enter Tryd.func27, Tryd.ntmps27
  go_wp2_with (first | ((with_reducible refine gate_dst (N := 7) rfl ?_); refine box_event ?hg (N := 7) ?hd (cs := #[.int .i64 a3_0, .int .i64 a3_1, .int .i64 a3_2, .int .i64 a3_3]) (t := 33) ?hr ?_; (case hd => rfl); (case hg => rfl); (case hr => first | (go_simp; done) | (go_simp; rfl)); intro gb505 hg w8 hbox hb; have n0_ := am_ (below_step (by repeat (first | (with_reducible first | exact HB.out | apply b1_ | apply b2_ | apply b3_) | exact HB.out)) hb); have n1_ := am_ (hbox); have n2_ := am_ ((by rw [hg]; exact (below_size (by repeat (first | (with_reducible first | exact HB.out | apply b1_ | apply b2_ | apply b3_) | exact HB.out))) : w.heap.size ≤ gb505)); have n3_ := am_ ((by rw [hg]; exact (below_size (by repeat (first | (with_reducible first | exact HB.out | apply b1_ | apply b2_ | apply b3_) | exact HB.out))) : w.heap.size ≤ gb505)); clear HB; have HB := n0_; have BK505 := n1_; have GW505 := n2_; have GE505 := n3_; clear n0_ n1_ n2_ n3_; clear hb hbox hg) | ((with_reducible refine gate_dst (N := 8) rfl ?_); refine box_event ?hg (N := 8) ?hd (cs := #[.int .i64 0, .int .i64 0, .int .i64 0, .int .i64 0, .int .i64 0, .int .i64 0, .int .i64 0, .string (⟨#[]⟩ : ByteArray)]) (t := 35) ?hr ?_; (case hd => rfl); (case hg => rfl); (case hr => first | (go_simp; done) | (go_simp; rfl)); intro gb506 hg w9 hbox hb; have n0_ := am_ (blk_below (g := gb505) (o := .cells #[.int .i64 a3_0, .int .i64 a3_1, .int .i64 a3_2, .int .i64 a3_3] 33 (0, 0)) (by (with_reducible repeat (first | apply k1_ | apply k2_ | apply k3_)); exact BK505.out) hb); have n1_ := am_ (below_step (by repeat (first | (with_reducible first | exact HB.out | apply b1_ | apply b2_ | apply b3_ | refine below_set ?_ GE505.out) | exact HB.out)) hb); have n2_ := am_ (hbox); have n3_ := am_ ((by rw [hg]; exact (below_size (by repeat (first | (with_reducible first | exact HB.out | apply b1_ | apply b2_ | apply b3_ | refine below_set ?_ GE505.out) | exact HB.out))) : w.heap.size ≤ gb506)); have n4_ := am_ ((by rw [hg]; exact (below_size (by repeat (first | (with_reducible first | exact HB.out | apply b1_ | apply b2_ | apply b3_ | refine below_set ?_ GE505.out) | exact HB.out))) : w.heap.size ≤ gb506)); have n5_ := am_ ((by rw [hg]; exact Nat.ne_of_lt (blk_lt (g := gb505) (o := .cells #[.int .i64 a3_0, .int .i64 a3_1, .int .i64 a3_2, .int .i64 a3_3] 33 (0, 0)) (by (with_reducible repeat (first | apply k1_ | apply k2_ | apply k3_)); exact BK505.out)) : gb505 ≠ gb506)); have n6_ := am_ ((by rw [hg]; exact Nat.ne_of_gt (blk_lt (g := gb505) (o := .cells #[.int .i64 a3_0, .int .i64 a3_1, .int .i64 a3_2, .int .i64 a3_3] 33 (0, 0)) (by (with_reducible repeat (first | apply k1_ | apply k2_ | apply k3_)); exact BK505.out)) : gb506 ≠ gb505)); clear BK505; clear HB; have BK505 := n0_; have HB := n1_; have BK506 := n2_; have GW506 := n3_; have GE506 := n4_; have NB505_506 := n5_; have NB506_505 := n6_; clear n0_ n1_ n2_ n3_ n4_ n5_ n6_; clear hb hbox hg; have hnb10 := NB505_506.out; have hnc10 := NB506_505.out; have hcz11_0 : w9.cell? ⟨gb505, 0, none⟩ = some (.int .i64 a3_0) := (blk_cell BK505.out 0).trans rfl; have hcz11_1 : w9.cell? ⟨gb505, 1, none⟩ = some (.int .i64 a3_1) := (blk_cell BK505.out 1).trans rfl; have hcz11_2 : w9.cell? ⟨gb505, 2, none⟩ = some (.int .i64 a3_2) := (blk_cell BK505.out 2).trans rfl; have hcz11_3 : w9.cell? ⟨gb505, 3, none⟩ = some (.int .i64 a3_3) := (blk_cell BK505.out 3).trans rfl; have hfz11_0 := blk_frozen BK505.out 0; have hfz11_1 := blk_frozen BK505.out 1; have hfz11_2 := blk_frozen BK505.out 2; have hfz11_3 := blk_frozen BK505.out 3) | ((with_reducible refine gate_dst (N := 10) rfl ?_); refine box_event ?hg (N := 10) ?hd (cs := #[.int .i64 0, .int .i64 0, .int .i64 0, .int .i64 0, .int .i64 0, .int .i64 0, .int .i64 0, .string (⟨#[]⟩ : ByteArray)]) (t := 35) ?hr ?_; (case hd => rfl); (case hg => rfl); (case hr => first | (go_simp; done) | (go_simp; rfl)); intro gb507 hg w12 hbox hb; have n0_ := am_ (blk_below (g := gb505) (o := .cells #[.int .i64 a3_0, .int .i64 a3_1, .int .i64 a3_2, .int .i64 a3_3] 33 (0, 0)) (by (with_reducible repeat (first | apply k1_ | apply k2_ | apply k3_)); exact BK505.out) hb); have n1_ := am_ (blk_below (g := gb506) (o := .cells #[.int .i64 0, .int .i64 0, .int .i64 0, .int .i64 0, .int .i64 0, .int .i64 0, .int .i64 0, .string (⟨#[]⟩ : ByteArray)] 35 (0, 0)) (by (with_reducible repeat (first | apply k1_ | apply k2_ | apply k3_)); exact BK506.out) hb); have n2_ := am_ (below_step (by repeat (first | (with_reducible first | exact HB.out | apply b1_ | apply b2_ | apply b3_ | refine below_set ?_ GE505.out | refine below_set ?_ GE506.out) | exact HB.out)) hb); have n3_ := am_ (hbox); have n4_ := am_ ((by rw [hg]; exact (below_size (by repeat (first | (with_reducible first | exact HB.out | apply b1_ | apply b2_ | apply b3_ | refine below_set ?_ GE505.out | refine below_set ?_ GE506.out) | exact HB.out))) : w.heap.size ≤ gb507)); have n5_ := am_ ((by rw [hg]; exact (below_size (by repeat (first | (with_reducible first | exact HB.out | apply b1_ | apply b2_ | apply b3_ | refine below_set ?_ GE505.out | refine below_set ?_ GE506.out) | exact HB.out))) : w.heap.size ≤ gb507)); have n6_ := am_ ((by rw [hg]; exact Nat.ne_of_lt (blk_lt (g := gb505) (o := .cells #[.int .i64 a3_0, .int .i64 a3_1, .int .i64 a3_2, .int .i64 a3_3] 33 (0, 0)) (by (with_reducible repeat (first | apply k1_ | apply k2_ | apply k3_)); exact BK505.out)) : gb505 ≠ gb507)); have n7_ := am_ ((by rw [hg]; exact Nat.ne_of_gt (blk_lt (g := gb505) (o := .cells #[.int .i64 a3_0, .int .i64 a3_1, .int .i64 a3_2, .int .i64 a3_3] 33 (0, 0)) (by (with_reducible repeat (first | apply k1_ | apply k2_ | apply k3_)); exact BK505.out)) : gb507 ≠ gb505)); have n8_ := am_ ((by rw [hg]; exact Nat.ne_of_lt (blk_lt (g := gb506) (o := .cells #[.int .i64 0, .int .i64 0, .int .i64 0, .int .i64 0, .int .i64 0, .int .i64 0, .int .i64 0, .string (⟨#[]⟩ : ByteArray)] 35 (0, 0)) (by (with_reducible repeat (first | apply k1_ | apply k2_ | apply k3_)); exact BK506.out)) : gb506 ≠ gb507)); have n9_ := am_ ((by rw [hg]; exact Nat.ne_of_gt (blk_lt (g := gb506) (o := .cells #[.int .i64 0, .int .i64 0, .int .i64 0, .int .i64 0, .int .i64 0, .int .i64 0, .int .i64 0, .string (⟨#[]⟩ : ByteArray)] 35 (0, 0)) (by (with_reducible repeat (first | apply k1_ | apply k2_ | apply k3_)); exact BK506.out)) : gb507 ≠ gb506)); clear BK505; clear BK506; clear HB; have BK505 := n0_; have BK506 := n1_; have HB := n2_; have BK507 := n3_; have GW507 := n4_; have GE507 := n5_; have NB505_507 := n6_; have NB507_505 := n7_; have NB506_507 := n8_; have NB507_506 := n9_; clear n0_ n1_ n2_ n3_ n4_ n5_ n6_ n7_ n8_ n9_; clear hb hbox hg; have hnb13 := NB507_505.out; have hnc13 := NB505_507.out; have hnb14 := NB507_506.out; have hnc14 := NB506_507.out; have hcz15_0 : w12.cell? ⟨gb507, 0, none⟩ = some (.int .i64 0) := (blk_cell BK507.out 0).trans rfl; have hcz15_1 : w12.cell? ⟨gb507, 1, none⟩ = some (.int .i64 0) := (blk_cell BK507.out 1).trans rfl; have hcz15_2 : w12.cell? ⟨gb507, 2, none⟩ = some (.int .i64 0) := (blk_cell BK507.out 2).trans rfl; have hcz15_3 : w12.cell? ⟨gb507, 3, none⟩ = some (.int .i64 0) := (blk_cell BK507.out 3).trans rfl; have hcz15_4 : w12.cell? ⟨gb507, 4, none⟩ = some (.int .i64 0) := (blk_cell BK507.out 4).trans rfl; have hcz15_5 : w12.cell? ⟨gb507, 5, none⟩ = some (.int .i64 0) := (blk_cell BK507.out 5).trans rfl; have hcz15_6 : w12.cell? ⟨gb507, 6, none⟩ = some (.int .i64 0) := (blk_cell BK507.out 6).trans rfl; have hcz15_7 : w12.cell? ⟨gb507, 7, none⟩ = some (.string (⟨#[]⟩ : ByteArray)) := (blk_cell BK507.out 7).trans rfl; have hfz15_0 := blk_frozen BK507.out 0; have hfz15_1 := blk_frozen BK507.out 1; have hfz15_2 := blk_frozen BK507.out 2; have hfz15_3 := blk_frozen BK507.out 3; have hfz15_4 := blk_frozen BK507.out 4; have hfz15_5 := blk_frozen BK507.out 5; have hfz15_6 := blk_frozen BK507.out 6; have hfz15_7 := blk_frozen BK507.out 7) | ((with_reducible refine gate_callee (f := 56) rfl ?_); refine goesL_ (some 17) rfl rfl Tryd.func56 (by kernel_rfl) rfl #[.agg #[.int .i64 a0, .int .i64 a1, .int .i64 a2, .int .i64 a3_0, .int .i64 a3_1, .int .i64 a3_2, .int .i64 a3_3, .string (⟨#[]⟩ : ByteArray)]] rfl (by (try simp only [m1_, m2_, m3_]); first | done | rfl | (simp only [d1_, d2_]; rfl)) ?_; (with_reducible refine (impl_isReply.calls a0 a1 a2 a3_0 a3_1 a3_2 a3_3 (⟨#[]⟩ : ByteArray) true _ A5.out).mono ?_); rintro e w16 ⟨rfl, hb⟩; refine ⟨_, rfl, ?_⟩; have n0_ := am_ (blk_below (g := gb505) (o := .cells #[.int .i64 a3_0, .int .i64 a3_1, .int .i64 a3_2, .int .i64 a3_3] 33 (0, 0)) (by (with_reducible repeat (first | apply k1_ | apply k2_ | apply k3_)); refine blk_far ?_ NB505_507.out _; (with_reducible repeat (first | apply k1_ | apply k2_ | apply k3_)); refine blk_far ?_ NB505_507.out _; (with_reducible repeat (first | apply k1_ | apply k2_ | apply k3_)); refine blk_far ?_ NB505_507.out _; (with_reducible repeat (first | apply k1_ | apply k2_ | apply k3_)); refine blk_far ?_ NB505_507.out _; (with_reducible repeat (first | apply k1_ | apply k2_ | apply k3_)); refine blk_far ?_ NB505_507.out _; (with_reducible repeat (first | apply k1_ | apply k2_ | apply k3_)); refine blk_far ?_ NB505_507.out _; (with_reducible repeat (first | apply k1_ | apply k2_ | apply k3_)); refine blk_far ?_ NB505_507.out _; (with_reducible repeat (first | apply k1_ | apply k2_ | apply k3_)); refine blk_far ?_ NB505_507.out _; (with_reducible repeat (first | apply k1_ | apply k2_ | apply k3_)); exact BK505.out) hb); have n1_ := am_ (blk_below (g := gb506) (o := .cells #[.int .i64 0, .int .i64 0, .int .i64 0, .int .i64 0, .int .i64 0, .int .i64 0, .int .i64 0, .string (⟨#[]⟩ : ByteArray)] 35 (0, 0)) (by (with_reducible repeat (first | apply k1_ | apply k2_ | apply k3_)); refine blk_far ?_ NB506_507.out _; (with_reducible repeat (first | apply k1_ | apply k2_ | apply k3_)); refine blk_far ?_ NB506_507.out _; (with_reducible repeat (first | apply k1_ | apply k2_ | apply k3_)); refine blk_far ?_ NB506_507.out _; (with_reducible repeat (first | apply k1_ | apply k2_ | apply k3_)); refine blk_far ?_ NB506_507.out _; (with_reducible repeat (first | apply k1_ | apply k2_ | apply k3_)); refine blk_far ?_ NB506_507.out _; (with_reducible repeat (first | apply k1_ | apply k2_ | apply k3_)); refine blk_far ?_ NB506_507.out _; (with_reducible repeat (first | apply k1_ | apply k2_ | apply k3_)); refine blk_far ?_ NB506_507.out _; (with_reducible repeat (first | apply k1_ | apply k2_ | apply k3_)); refine blk_far ?_ NB506_507.out _; (with_reducible repeat (first | apply k1_ | apply k2_ | apply k3_)); exact BK506.out) hb); have n2_ := am_ (blk_below (g := gb507) (o := .cells #[.int .i64 a0, .int .i64 a1, .int .i64 a2, .int .i64 a3_0, .int .i64 a3_1, .int .i64 a3_2, .int .i64 a3_3, .string (⟨#[]⟩ : ByteArray)] 35 (0, 0)) (by (with_reducible repeat (first | apply k1_ | apply k2_ | apply k3_)); refine blk_put (cs := #[.int .i64 a0, .int .i64 a1, .int .i64 a2, .int .i64 a3_0, .int .i64 a3_1, .int .i64 a3_2, .int .i64 a3_3, .string (⟨#[]⟩ : ByteArray)]) ?_ 7 _ rfl; (with_reducible repeat (first | apply k1_ | apply k2_ | apply k3_)); refine blk_put (cs := #[.int .i64 a0, .int .i64 a1, .int .i64 a2, .int .i64 a3_0, .int .i64 a3_1, .int .i64 a3_2, .int .i64 0, .string (⟨#[]⟩ : ByteArray)]) ?_ 6 _ rfl; (with_reducible repeat (first | apply k1_ | apply k2_ | apply k3_)); refine blk_put (cs := #[.int .i64 a0, .int .i64 a1, .int .i64 a2, .int .i64 a3_0, .int .i64 a3_1, .int .i64 0, .int .i64 0, .string (⟨#[]⟩ : ByteArray)]) ?_ 5 _ rfl; (with_reducible repeat (first | apply k1_ | apply k2_ | apply k3_)); refine blk_put (cs := #[.int .i64 a0, .int .i64 a1, .int .i64 a2, .int .i64 a3_0, .int .i64 0, .int .i64 0, .int .i64 0, .string (⟨#[]⟩ : ByteArray)]) ?_ 4 _ rfl; (with_reducible repeat (first | apply k1_ | apply k2_ | apply k3_)); refine blk_put (cs := #[.int .i64 a0, .int .i64 a1, .int .i64 a2, .int .i64 0, .int .i64 0, .int .i64 0, .int .i64 0, .string (⟨#[]⟩ : ByteArray)]) ?_ 3 _ rfl; (with_reducible repeat (first | apply k1_ | apply k2_ | apply k3_)); refine blk_put (cs := #[.int .i64 a0, .int .i64 a1, .int .i64 0, .int .i64 0, .int .i64 0, .int .i64 0, .int .i64 0, .string (⟨#[]⟩ : ByteArray)]) ?_ 2 _ rfl; (with_reducible repeat (first | apply k1_ | apply k2_ | apply k3_)); refine blk_put (cs := #[.int .i64 a0, .int .i64 0, .int .i64 0, .int .i64 0, .int .i64 0, .int .i64 0, .int .i64 0, .string (⟨#[]⟩ : ByteArray)]) ?_ 1 _ rfl; (with_reducible repeat (first | apply k1_ | apply k2_ | apply k3_)); refine blk_put (cs := #[.int .i64 0, .int .i64 0, .int .i64 0, .int .i64 0, .int .i64 0, .int .i64 0, .int .i64 0, .string (⟨#[]⟩ : ByteArray)]) ?_ 0 _ rfl; (with_reducible repeat (first | apply k1_ | apply k2_ | apply k3_)); exact BK507.out) hb); have n3_ := am_ (below_step (by repeat (first | (with_reducible first | exact HB.out | apply b1_ | apply b2_ | apply b3_ | refine below_set ?_ GE505.out | refine below_set ?_ GE506.out | refine below_set ?_ GE507.out) | exact HB.out)) hb); clear BK505; clear BK506; clear BK507; clear HB; have BK505 := n0_; have BK506 := n1_; have BK507 := n2_; have HB := n3_; clear n0_ n1_ n2_ n3_; (try clear hb); (try clear hb2); (try clear hk); (try clear hi); have hcz17_0 : w16.cell? ⟨gb507, 0, none⟩ = some (.int .i64 a0) := (blk_cell BK507.out 0).trans rfl; have hcz17_1 : w16.cell? ⟨gb507, 1, none⟩ = some (.int .i64 a1) := (blk_cell BK507.out 1).trans rfl; have hcz17_2 : w16.cell? ⟨gb507, 2, none⟩ = some (.int .i64 a2) := (blk_cell BK507.out 2).trans rfl; have hcz17_3 : w16.cell? ⟨gb507, 3, none⟩ = some (.int .i64 a3_0) := (blk_cell BK507.out 3).trans rfl; have hcz17_4 : w16.cell? ⟨gb507, 4, none⟩ = some (.int .i64 a3_1) := (blk_cell BK507.out 4).trans rfl; have hcz17_5 : w16.cell? ⟨gb507, 5, none⟩ = some (.int .i64 a3_2) := (blk_cell BK507.out 5).trans rfl; have hcz17_6 : w16.cell? ⟨gb507, 6, none⟩ = some (.int .i64 a3_3) := (blk_cell BK507.out 6).trans rfl; have hcz17_7 : w16.cell? ⟨gb507, 7, none⟩ = some (.string (⟨#[]⟩ : ByteArray)) := (blk_cell BK507.out 7).trans rfl; have hfz17_0 := blk_frozen BK507.out 0; have hfz17_1 := blk_frozen BK507.out 1; have hfz17_2 := blk_frozen BK507.out 2; have hfz17_3 := blk_frozen BK507.out 3; have hfz17_4 := blk_frozen BK507.out 4; have hfz17_5 := blk_frozen BK507.out 5; have hfz17_6 := blk_frozen BK507.out 6; have hfz17_7 := blk_frozen BK507.out 7) | ((with_reducible refine gate_callee (f := 57) rfl ?_); refine goesL_ (some 21) rfl rfl Tryd.func57 (by kernel_rfl) rfl #[.agg #[.int .i64 a0, .int .i64 a1, .int .i64 a2, .int .i64 a3_0, .int .i64 a3_1, .int .i64 a3_2, .int .i64 a3_3, .string (⟨#[]⟩ : ByteArray)]] rfl (by (try simp only [m1_, m2_, m3_]); first | done | rfl | (simp only [d1_, d2_]; rfl)) ?_; (with_reducible refine (impl_replyMac.calls k a0 a1 a2 a3_0 a3_1 a3_2 a3_3 (⟨#[]⟩ : ByteArray) t509 _ ?side1 A7.out).mono ?_); (case side1 => exact HLD.out.on (by repeat (first | (with_reducible first | exact HB.out | apply b1_ | apply b2_ | apply b3_ | refine below_set ?_ GE505.out | refine below_set ?_ GE506.out | refine below_set ?_ GE507.out) | exact HB.out))); rintro e w18 ⟨rfl, hb⟩; refine ⟨_, rfl, ?_⟩; have n0_ := am_ (blk_below (g := gb505) (o := .cells #[.int .i64 a3_0, .int .i64 a3_1, .int .i64 a3_2, .int .i64 a3_3] 33 (0, 0)) (by (with_reducible repeat (first | apply k1_ | apply k2_ | apply k3_)); exact BK505.out) hb); have n1_ := am_ (blk_below (g := gb506) (o := .cells #[.int .i64 0, .int .i64 0, .int .i64 0, .int .i64 0, .int .i64 0, .int .i64 0, .int .i64 0, .string (⟨#[]⟩ : ByteArray)] 35 (0, 0)) (by (with_reducible repeat (first | apply k1_ | apply k2_ | apply k3_)); exact BK506.out) hb); have n2_ := am_ (blk_below (g := gb507) (o := .cells #[.int .i64 a0, .int .i64 a1, .int .i64 a2, .int .i64 a3_0, .int .i64 a3_1, .int .i64 a3_2, .int .i64 a3_3, .string (⟨#[]⟩ : ByteArray)] 35 (0, 0)) (by (with_reducible repeat (first | apply k1_ | apply k2_ | apply k3_)); exact BK507.out) hb); have n3_ := am_ (below_step (by repeat (first | (with_reducible first | exact HB.out | apply b1_ | apply b2_ | apply b3_ | refine below_set ?_ GE505.out | refine below_set ?_ GE506.out | refine below_set ?_ GE507.out) | exact HB.out)) hb); clear BK505; clear BK506; clear BK507; clear HB; have BK505 := n0_; have BK506 := n1_; have BK507 := n2_; have HB := n3_; clear n0_ n1_ n2_ n3_; (try clear hb); (try clear hb2); (try clear hk); (try clear hi); have hcz19_0 : w18.cell? ⟨gb507, 0, none⟩ = some (.int .i64 a0) := (blk_cell BK507.out 0).trans rfl; have hcz19_1 : w18.cell? ⟨gb507, 1, none⟩ = some (.int .i64 a1) := (blk_cell BK507.out 1).trans rfl; have hcz19_2 : w18.cell? ⟨gb507, 2, none⟩ = some (.int .i64 a2) := (blk_cell BK507.out 2).trans rfl; have hcz19_3 : w18.cell? ⟨gb507, 3, none⟩ = some (.int .i64 a3_0) := (blk_cell BK507.out 3).trans rfl; have hcz19_4 : w18.cell? ⟨gb507, 4, none⟩ = some (.int .i64 a3_1) := (blk_cell BK507.out 4).trans rfl; have hcz19_5 : w18.cell? ⟨gb507, 5, none⟩ = some (.int .i64 a3_2) := (blk_cell BK507.out 5).trans rfl; have hcz19_6 : w18.cell? ⟨gb507, 6, none⟩ = some (.int .i64 a3_3) := (blk_cell BK507.out 6).trans rfl; have hcz19_7 : w18.cell? ⟨gb507, 7, none⟩ = some (.string (⟨#[]⟩ : ByteArray)) := (blk_cell BK507.out 7).trans rfl; have hfz19_0 := blk_frozen BK507.out 0; have hfz19_1 := blk_frozen BK507.out 1; have hfz19_2 := blk_frozen BK507.out 2; have hfz19_3 := blk_frozen BK507.out 3; have hfz19_4 := blk_frozen BK507.out 4; have hfz19_5 := blk_frozen BK507.out 5; have hfz19_6 := blk_frozen BK507.out 6; have hfz19_7 := blk_frozen BK507.out 7; have hcz20_0 : w18.cell? ⟨gb506, 0, none⟩ = some (.int .i64 0) := (blk_cell BK506.out 0).trans rfl; have hcz20_1 : w18.cell? ⟨gb506, 1, none⟩ = some (.int .i64 0) := (blk_cell BK506.out 1).trans rfl; have hcz20_2 : w18.cell? ⟨gb506, 2, none⟩ = some (.int .i64 0) := (blk_cell BK506.out 2).trans rfl; have hcz20_3 : w18.cell? ⟨gb506, 3, none⟩ = some (.int .i64 0) := (blk_cell BK506.out 3).trans rfl; have hcz20_4 : w18.cell? ⟨gb506, 4, none⟩ = some (.int .i64 0) := (blk_cell BK506.out 4).trans rfl; have hcz20_5 : w18.cell? ⟨gb506, 5, none⟩ = some (.int .i64 0) := (blk_cell BK506.out 5).trans rfl; have hcz20_6 : w18.cell? ⟨gb506, 6, none⟩ = some (.int .i64 0) := (blk_cell BK506.out 6).trans rfl; have hcz20_7 : w18.cell? ⟨gb506, 7, none⟩ = some (.string (⟨#[]⟩ : ByteArray)) := (blk_cell BK506.out 7).trans rfl; have hfz20_0 := blk_frozen BK506.out 0; have hfz20_1 := blk_frozen BK506.out 1; have hfz20_2 := blk_frozen BK506.out 2; have hfz20_3 := blk_frozen BK506.out 3; have hfz20_4 := blk_frozen BK506.out 4; have hfz20_5 := blk_frozen BK506.out 5; have hfz20_6 := blk_frozen BK506.out 6; have hfz20_7 := blk_frozen BK506.out 7))
  refine bodyPost_ret (results_ct rfl _ _ gb506 35 #[.int .i64 a0, .int .i64 a1, .int .i64 a2, .int .i64 a3_0, .int .i64 a3_1, .int .i64 a3_2, .int .i64 a3_3, .string t509] (0, 0) _ rfl (by (with_reducible repeat (first | apply k1_ | apply k2_ | apply k3_)); refine blk_put (cs := #[.int .i64 a0, .int .i64 a1, .int .i64 a2, .int .i64 a3_0, .int .i64 a3_1, .int .i64 a3_2, .int .i64 a3_3, .string (⟨#[]⟩ : ByteArray)]) ?_ 7 _ rfl; (with_reducible repeat (first | apply k1_ | apply k2_ | apply k3_)); refine blk_put (cs := #[.int .i64 a0, .int .i64 a1, .int .i64 a2, .int .i64 a3_0, .int .i64 a3_1, .int .i64 a3_2, .int .i64 0, .string (⟨#[]⟩ : ByteArray)]) ?_ 6 _ rfl; (with_reducible repeat (first | apply k1_ | apply k2_ | apply k3_)); refine blk_put (cs := #[.int .i64 a0, .int .i64 a1, .int .i64 a2, .int .i64 a3_0, .int .i64 a3_1, .int .i64 0, .int .i64 0, .string (⟨#[]⟩ : ByteArray)]) ?_ 5 _ rfl; (with_reducible repeat (first | apply k1_ | apply k2_ | apply k3_)); refine blk_put (cs := #[.int .i64 a0, .int .i64 a1, .int .i64 a2, .int .i64 a3_0, .int .i64 0, .int .i64 0, .int .i64 0, .string (⟨#[]⟩ : ByteArray)]) ?_ 4 _ rfl; (with_reducible repeat (first | apply k1_ | apply k2_ | apply k3_)); refine blk_put (cs := #[.int .i64 a0, .int .i64 a1, .int .i64 a2, .int .i64 0, .int .i64 0, .int .i64 0, .int .i64 0, .string (⟨#[]⟩ : ByteArray)]) ?_ 3 _ rfl; (with_reducible repeat (first | apply k1_ | apply k2_ | apply k3_)); refine blk_put (cs := #[.int .i64 a0, .int .i64 a1, .int .i64 0, .int .i64 0, .int .i64 0, .int .i64 0, .int .i64 0, .string (⟨#[]⟩ : ByteArray)]) ?_ 2 _ rfl; (with_reducible repeat (first | apply k1_ | apply k2_ | apply k3_)); refine blk_put (cs := #[.int .i64 a0, .int .i64 0, .int .i64 0, .int .i64 0, .int .i64 0, .int .i64 0, .int .i64 0, .string (⟨#[]⟩ : ByteArray)]) ?_ 1 _ rfl; (with_reducible repeat (first | apply k1_ | apply k2_ | apply k3_)); refine blk_put (cs := #[.int .i64 0, .int .i64 0, .int .i64 0, .int .i64 0, .int .i64 0, .int .i64 0, .int .i64 0, .string (⟨#[]⟩ : ByteArray)]) ?_ 0 _ rfl; (with_reducible repeat (first | apply k1_ | apply k2_ | apply k3_)); refine blk_far ?_ NB506_507.out _; (with_reducible repeat (first | apply k1_ | apply k2_ | apply k3_)); exact BK506.out) Tryd.underlying35 rfl (by kernel_rfl)) rfl ?_
  exact ⟨by first | rfl | (simp [e1_, e2_] <;> rfl) | (simp [*, e1_, e2_] <;> rfl) | (simp [e3_, e4_]; done) | (simp [*, e3_, e4_]; done), by repeat (first | (with_reducible first | exact HB.out | apply b1_ | apply b2_ | apply b3_ | refine below_set ?_ GE505.out | refine below_set ?_ GE506.out | refine below_set ?_ GE507.out) | exact HB.out)⟩
 ·replace c6 := Bool.eq_false_iff.mpr c6
  subst c6
  have H1 : (some (0, 0, 0, 0, 0, 0, 0, (⟨#[]⟩ : ByteArray), 1)) = some (r1, r2, r3, r4, r5, r6, r7, r8, r9) := by rw [if_neg (show ¬ (false = true) by decide)] at H; exact H
  clear H
  have H := H1
  clear H1
  simp only [Option.some.injEq, Prod.mk.injEq] at H
  obtain ⟨rfl, rfl, rfl, rfl, rfl, rfl, rfl, rfl, rfl⟩ := H
  go_enter Tryd.func27, Tryd.ntmps27
  go_wp2_with (first | ((with_reducible refine gate_dst (N := 7) rfl ?_); refine box_event ?hg (N := 7) ?hd (cs := #[.int .i64 a3_0, .int .i64 a3_1, .int .i64 a3_2, .int .i64 a3_3]) (t := 33) ?hr ?_; (case hd => rfl); (case hg => rfl); (case hr => first | (go_simp; done) | (go_simp; rfl)); intro gb505 hg w21 hbox hb; have n0_ := am_ (below_step (by repeat (first | (with_reducible first | exact HB.out | apply b1_ | apply b2_ | apply b3_) | exact HB.out)) hb); have n1_ := am_ (hbox); have n2_ := am_ ((by rw [hg]; exact (below_size (by repeat (first | (with_reducible first | exact HB.out | apply b1_ | apply b2_ | apply b3_) | exact HB.out))) : w.heap.size ≤ gb505)); have n3_ := am_ ((by rw [hg]; exact (below_size (by repeat (first | (with_reducible first | exact HB.out | apply b1_ | apply b2_ | apply b3_) | exact HB.out))) : w.heap.size ≤ gb505)); clear HB; have HB := n0_; have BK505 := n1_; have GW505 := n2_; have GE505 := n3_; clear n0_ n1_ n2_ n3_; clear hb hbox hg) | ((with_reducible refine gate_dst (N := 8) rfl ?_); refine box_event ?hg (N := 8) ?hd (cs := #[.int .i64 0, .int .i64 0, .int .i64 0, .int .i64 0, .int .i64 0, .int .i64 0, .int .i64 0, .string (⟨#[]⟩ : ByteArray)]) (t := 35) ?hr ?_; (case hd => rfl); (case hg => rfl); (case hr => first | (go_simp; done) | (go_simp; rfl)); intro gb506 hg w22 hbox hb; have n0_ := am_ (blk_below (g := gb505) (o := .cells #[.int .i64 a3_0, .int .i64 a3_1, .int .i64 a3_2, .int .i64 a3_3] 33 (0, 0)) (by (with_reducible repeat (first | apply k1_ | apply k2_ | apply k3_)); exact BK505.out) hb); have n1_ := am_ (below_step (by repeat (first | (with_reducible first | exact HB.out | apply b1_ | apply b2_ | apply b3_ | refine below_set ?_ GE505.out) | exact HB.out)) hb); have n2_ := am_ (hbox); have n3_ := am_ ((by rw [hg]; exact (below_size (by repeat (first | (with_reducible first | exact HB.out | apply b1_ | apply b2_ | apply b3_ | refine below_set ?_ GE505.out) | exact HB.out))) : w.heap.size ≤ gb506)); have n4_ := am_ ((by rw [hg]; exact (below_size (by repeat (first | (with_reducible first | exact HB.out | apply b1_ | apply b2_ | apply b3_ | refine below_set ?_ GE505.out) | exact HB.out))) : w.heap.size ≤ gb506)); have n5_ := am_ ((by rw [hg]; exact Nat.ne_of_lt (blk_lt (g := gb505) (o := .cells #[.int .i64 a3_0, .int .i64 a3_1, .int .i64 a3_2, .int .i64 a3_3] 33 (0, 0)) (by (with_reducible repeat (first | apply k1_ | apply k2_ | apply k3_)); exact BK505.out)) : gb505 ≠ gb506)); have n6_ := am_ ((by rw [hg]; exact Nat.ne_of_gt (blk_lt (g := gb505) (o := .cells #[.int .i64 a3_0, .int .i64 a3_1, .int .i64 a3_2, .int .i64 a3_3] 33 (0, 0)) (by (with_reducible repeat (first | apply k1_ | apply k2_ | apply k3_)); exact BK505.out)) : gb506 ≠ gb505)); clear BK505; clear HB; have BK505 := n0_; have HB := n1_; have BK506 := n2_; have GW506 := n3_; have GE506 := n4_; have NB505_506 := n5_; have NB506_505 := n6_; clear n0_ n1_ n2_ n3_ n4_ n5_ n6_; clear hb hbox hg; have hnb23 := NB505_506.out; have hnc23 := NB506_505.out; have hcz24_0 : w22.cell? ⟨gb505, 0, none⟩ = some (.int .i64 a3_0) := (blk_cell BK505.out 0).trans rfl; have hcz24_1 : w22.cell? ⟨gb505, 1, none⟩ = some (.int .i64 a3_1) := (blk_cell BK505.out 1).trans rfl; have hcz24_2 : w22.cell? ⟨gb505, 2, none⟩ = some (.int .i64 a3_2) := (blk_cell BK505.out 2).trans rfl; have hcz24_3 : w22.cell? ⟨gb505, 3, none⟩ = some (.int .i64 a3_3) := (blk_cell BK505.out 3).trans rfl; have hfz24_0 := blk_frozen BK505.out 0; have hfz24_1 := blk_frozen BK505.out 1; have hfz24_2 := blk_frozen BK505.out 2; have hfz24_3 := blk_frozen BK505.out 3) | ((with_reducible refine gate_dst (N := 10) rfl ?_); refine box_event ?hg (N := 10) ?hd (cs := #[.int .i64 0, .int .i64 0, .int .i64 0, .int .i64 0, .int .i64 0, .int .i64 0, .int .i64 0, .string (⟨#[]⟩ : ByteArray)]) (t := 35) ?hr ?_; (case hd => rfl); (case hg => rfl); (case hr => first | (go_simp; done) | (go_simp; rfl)); intro gb507 hg w25 hbox hb; have n0_ := am_ (blk_below (g := gb505) (o := .cells #[.int .i64 a3_0, .int .i64 a3_1, .int .i64 a3_2, .int .i64 a3_3] 33 (0, 0)) (by (with_reducible repeat (first | apply k1_ | apply k2_ | apply k3_)); exact BK505.out) hb); have n1_ := am_ (blk_below (g := gb506) (o := .cells #[.int .i64 0, .int .i64 0, .int .i64 0, .int .i64 0, .int .i64 0, .int .i64 0, .int .i64 0, .string (⟨#[]⟩ : ByteArray)] 35 (0, 0)) (by (with_reducible repeat (first | apply k1_ | apply k2_ | apply k3_)); exact BK506.out) hb); have n2_ := am_ (below_step (by repeat (first | (with_reducible first | exact HB.out | apply b1_ | apply b2_ | apply b3_ | refine below_set ?_ GE505.out | refine below_set ?_ GE506.out) | exact HB.out)) hb); have n3_ := am_ (hbox); have n4_ := am_ ((by rw [hg]; exact (below_size (by repeat (first | (with_reducible first | exact HB.out | apply b1_ | apply b2_ | apply b3_ | refine below_set ?_ GE505.out | refine below_set ?_ GE506.out) | exact HB.out))) : w.heap.size ≤ gb507)); have n5_ := am_ ((by rw [hg]; exact (below_size (by repeat (first | (with_reducible first | exact HB.out | apply b1_ | apply b2_ | apply b3_ | refine below_set ?_ GE505.out | refine below_set ?_ GE506.out) | exact HB.out))) : w.heap.size ≤ gb507)); have n6_ := am_ ((by rw [hg]; exact Nat.ne_of_lt (blk_lt (g := gb505) (o := .cells #[.int .i64 a3_0, .int .i64 a3_1, .int .i64 a3_2, .int .i64 a3_3] 33 (0, 0)) (by (with_reducible repeat (first | apply k1_ | apply k2_ | apply k3_)); exact BK505.out)) : gb505 ≠ gb507)); have n7_ := am_ ((by rw [hg]; exact Nat.ne_of_gt (blk_lt (g := gb505) (o := .cells #[.int .i64 a3_0, .int .i64 a3_1, .int .i64 a3_2, .int .i64 a3_3] 33 (0, 0)) (by (with_reducible repeat (first | apply k1_ | apply k2_ | apply k3_)); exact BK505.out)) : gb507 ≠ gb505)); have n8_ := am_ ((by rw [hg]; exact Nat.ne_of_lt (blk_lt (g := gb506) (o := .cells #[.int .i64 0, .int .i64 0, .int .i64 0, .int .i64 0, .int .i64 0, .int .i64 0, .int .i64 0, .string (⟨#[]⟩ : ByteArray)] 35 (0, 0)) (by (with_reducible repeat (first | apply k1_ | apply k2_ | apply k3_)); exact BK506.out)) : gb506 ≠ gb507)); have n9_ := am_ ((by rw [hg]; exact Nat.ne_of_gt (blk_lt (g := gb506) (o := .cells #[.int .i64 0, .int .i64 0, .int .i64 0, .int .i64 0, .int .i64 0, .int .i64 0, .int .i64 0, .string (⟨#[]⟩ : ByteArray)] 35 (0, 0)) (by (with_reducible repeat (first | apply k1_ | apply k2_ | apply k3_)); exact BK506.out)) : gb507 ≠ gb506)); clear BK505; clear BK506; clear HB; have BK505 := n0_; have BK506 := n1_; have HB := n2_; have BK507 := n3_; have GW507 := n4_; have GE507 := n5_; have NB505_507 := n6_; have NB507_505 := n7_; have NB506_507 := n8_; have NB507_506 := n9_; clear n0_ n1_ n2_ n3_ n4_ n5_ n6_ n7_ n8_ n9_; clear hb hbox hg; have hnb26 := NB507_505.out; have hnc26 := NB505_507.out; have hnb27 := NB507_506.out; have hnc27 := NB506_507.out; have hcz28_0 : w25.cell? ⟨gb507, 0, none⟩ = some (.int .i64 0) := (blk_cell BK507.out 0).trans rfl; have hcz28_1 : w25.cell? ⟨gb507, 1, none⟩ = some (.int .i64 0) := (blk_cell BK507.out 1).trans rfl; have hcz28_2 : w25.cell? ⟨gb507, 2, none⟩ = some (.int .i64 0) := (blk_cell BK507.out 2).trans rfl; have hcz28_3 : w25.cell? ⟨gb507, 3, none⟩ = some (.int .i64 0) := (blk_cell BK507.out 3).trans rfl; have hcz28_4 : w25.cell? ⟨gb507, 4, none⟩ = some (.int .i64 0) := (blk_cell BK507.out 4).trans rfl; have hcz28_5 : w25.cell? ⟨gb507, 5, none⟩ = some (.int .i64 0) := (blk_cell BK507.out 5).trans rfl; have hcz28_6 : w25.cell? ⟨gb507, 6, none⟩ = some (.int .i64 0) := (blk_cell BK507.out 6).trans rfl; have hcz28_7 : w25.cell? ⟨gb507, 7, none⟩ = some (.string (⟨#[]⟩ : ByteArray)) := (blk_cell BK507.out 7).trans rfl; have hfz28_0 := blk_frozen BK507.out 0; have hfz28_1 := blk_frozen BK507.out 1; have hfz28_2 := blk_frozen BK507.out 2; have hfz28_3 := blk_frozen BK507.out 3; have hfz28_4 := blk_frozen BK507.out 4; have hfz28_5 := blk_frozen BK507.out 5; have hfz28_6 := blk_frozen BK507.out 6; have hfz28_7 := blk_frozen BK507.out 7) | ((with_reducible refine gate_callee (f := 56) rfl ?_); refine goesL_ (some 17) rfl rfl Tryd.func56 (by kernel_rfl) rfl #[.agg #[.int .i64 a0, .int .i64 a1, .int .i64 a2, .int .i64 a3_0, .int .i64 a3_1, .int .i64 a3_2, .int .i64 a3_3, .string (⟨#[]⟩ : ByteArray)]] rfl (by (try simp only [m1_, m2_, m3_]); first | done | rfl | (simp only [d1_, d2_]; rfl)) ?_; (with_reducible refine (impl_isReply.calls a0 a1 a2 a3_0 a3_1 a3_2 a3_3 (⟨#[]⟩ : ByteArray) false _ A5.out).mono ?_); rintro e w29 ⟨rfl, hb⟩; refine ⟨_, rfl, ?_⟩; have n0_ := am_ (blk_below (g := gb505) (o := .cells #[.int .i64 a3_0, .int .i64 a3_1, .int .i64 a3_2, .int .i64 a3_3] 33 (0, 0)) (by (with_reducible repeat (first | apply k1_ | apply k2_ | apply k3_)); refine blk_far ?_ NB505_507.out _; (with_reducible repeat (first | apply k1_ | apply k2_ | apply k3_)); refine blk_far ?_ NB505_507.out _; (with_reducible repeat (first | apply k1_ | apply k2_ | apply k3_)); refine blk_far ?_ NB505_507.out _; (with_reducible repeat (first | apply k1_ | apply k2_ | apply k3_)); refine blk_far ?_ NB505_507.out _; (with_reducible repeat (first | apply k1_ | apply k2_ | apply k3_)); refine blk_far ?_ NB505_507.out _; (with_reducible repeat (first | apply k1_ | apply k2_ | apply k3_)); refine blk_far ?_ NB505_507.out _; (with_reducible repeat (first | apply k1_ | apply k2_ | apply k3_)); refine blk_far ?_ NB505_507.out _; (with_reducible repeat (first | apply k1_ | apply k2_ | apply k3_)); refine blk_far ?_ NB505_507.out _; (with_reducible repeat (first | apply k1_ | apply k2_ | apply k3_)); exact BK505.out) hb); have n1_ := am_ (blk_below (g := gb506) (o := .cells #[.int .i64 0, .int .i64 0, .int .i64 0, .int .i64 0, .int .i64 0, .int .i64 0, .int .i64 0, .string (⟨#[]⟩ : ByteArray)] 35 (0, 0)) (by (with_reducible repeat (first | apply k1_ | apply k2_ | apply k3_)); refine blk_far ?_ NB506_507.out _; (with_reducible repeat (first | apply k1_ | apply k2_ | apply k3_)); refine blk_far ?_ NB506_507.out _; (with_reducible repeat (first | apply k1_ | apply k2_ | apply k3_)); refine blk_far ?_ NB506_507.out _; (with_reducible repeat (first | apply k1_ | apply k2_ | apply k3_)); refine blk_far ?_ NB506_507.out _; (with_reducible repeat (first | apply k1_ | apply k2_ | apply k3_)); refine blk_far ?_ NB506_507.out _; (with_reducible repeat (first | apply k1_ | apply k2_ | apply k3_)); refine blk_far ?_ NB506_507.out _; (with_reducible repeat (first | apply k1_ | apply k2_ | apply k3_)); refine blk_far ?_ NB506_507.out _; (with_reducible repeat (first | apply k1_ | apply k2_ | apply k3_)); refine blk_far ?_ NB506_507.out _; (with_reducible repeat (first | apply k1_ | apply k2_ | apply k3_)); exact BK506.out) hb); have n2_ := am_ (blk_below (g := gb507) (o := .cells #[.int .i64 a0, .int .i64 a1, .int .i64 a2, .int .i64 a3_0, .int .i64 a3_1, .int .i64 a3_2, .int .i64 a3_3, .string (⟨#[]⟩ : ByteArray)] 35 (0, 0)) (by (with_reducible repeat (first | apply k1_ | apply k2_ | apply k3_)); refine blk_put (cs := #[.int .i64 a0, .int .i64 a1, .int .i64 a2, .int .i64 a3_0, .int .i64 a3_1, .int .i64 a3_2, .int .i64 a3_3, .string (⟨#[]⟩ : ByteArray)]) ?_ 7 _ rfl; (with_reducible repeat (first | apply k1_ | apply k2_ | apply k3_)); refine blk_put (cs := #[.int .i64 a0, .int .i64 a1, .int .i64 a2, .int .i64 a3_0, .int .i64 a3_1, .int .i64 a3_2, .int .i64 0, .string (⟨#[]⟩ : ByteArray)]) ?_ 6 _ rfl; (with_reducible repeat (first | apply k1_ | apply k2_ | apply k3_)); refine blk_put (cs := #[.int .i64 a0, .int .i64 a1, .int .i64 a2, .int .i64 a3_0, .int .i64 a3_1, .int .i64 0, .int .i64 0, .string (⟨#[]⟩ : ByteArray)]) ?_ 5 _ rfl; (with_reducible repeat (first | apply k1_ | apply k2_ | apply k3_)); refine blk_put (cs := #[.int .i64 a0, .int .i64 a1, .int .i64 a2, .int .i64 a3_0, .int .i64 0, .int .i64 0, .int .i64 0, .string (⟨#[]⟩ : ByteArray)]) ?_ 4 _ rfl; (with_reducible repeat (first | apply k1_ | apply k2_ | apply k3_)); refine blk_put (cs := #[.int .i64 a0, .int .i64 a1, .int .i64 a2, .int .i64 0, .int .i64 0, .int .i64 0, .int .i64 0, .string (⟨#[]⟩ : ByteArray)]) ?_ 3 _ rfl; (with_reducible repeat (first | apply k1_ | apply k2_ | apply k3_)); refine blk_put (cs := #[.int .i64 a0, .int .i64 a1, .int .i64 0, .int .i64 0, .int .i64 0, .int .i64 0, .int .i64 0, .string (⟨#[]⟩ : ByteArray)]) ?_ 2 _ rfl; (with_reducible repeat (first | apply k1_ | apply k2_ | apply k3_)); refine blk_put (cs := #[.int .i64 a0, .int .i64 0, .int .i64 0, .int .i64 0, .int .i64 0, .int .i64 0, .int .i64 0, .string (⟨#[]⟩ : ByteArray)]) ?_ 1 _ rfl; (with_reducible repeat (first | apply k1_ | apply k2_ | apply k3_)); refine blk_put (cs := #[.int .i64 0, .int .i64 0, .int .i64 0, .int .i64 0, .int .i64 0, .int .i64 0, .int .i64 0, .string (⟨#[]⟩ : ByteArray)]) ?_ 0 _ rfl; (with_reducible repeat (first | apply k1_ | apply k2_ | apply k3_)); exact BK507.out) hb); have n3_ := am_ (below_step (by repeat (first | (with_reducible first | exact HB.out | apply b1_ | apply b2_ | apply b3_ | refine below_set ?_ GE505.out | refine below_set ?_ GE506.out | refine below_set ?_ GE507.out) | exact HB.out)) hb); clear BK505; clear BK506; clear BK507; clear HB; have BK505 := n0_; have BK506 := n1_; have BK507 := n2_; have HB := n3_; clear n0_ n1_ n2_ n3_; (try clear hb); (try clear hb2); (try clear hk); (try clear hi); have hcz30_0 : w29.cell? ⟨gb506, 0, none⟩ = some (.int .i64 0) := (blk_cell BK506.out 0).trans rfl; have hcz30_1 : w29.cell? ⟨gb506, 1, none⟩ = some (.int .i64 0) := (blk_cell BK506.out 1).trans rfl; have hcz30_2 : w29.cell? ⟨gb506, 2, none⟩ = some (.int .i64 0) := (blk_cell BK506.out 2).trans rfl; have hcz30_3 : w29.cell? ⟨gb506, 3, none⟩ = some (.int .i64 0) := (blk_cell BK506.out 3).trans rfl; have hcz30_4 : w29.cell? ⟨gb506, 4, none⟩ = some (.int .i64 0) := (blk_cell BK506.out 4).trans rfl; have hcz30_5 : w29.cell? ⟨gb506, 5, none⟩ = some (.int .i64 0) := (blk_cell BK506.out 5).trans rfl; have hcz30_6 : w29.cell? ⟨gb506, 6, none⟩ = some (.int .i64 0) := (blk_cell BK506.out 6).trans rfl; have hcz30_7 : w29.cell? ⟨gb506, 7, none⟩ = some (.string (⟨#[]⟩ : ByteArray)) := (blk_cell BK506.out 7).trans rfl; have hfz30_0 := blk_frozen BK506.out 0; have hfz30_1 := blk_frozen BK506.out 1; have hfz30_2 := blk_frozen BK506.out 2; have hfz30_3 := blk_frozen BK506.out 3; have hfz30_4 := blk_frozen BK506.out 4; have hfz30_5 := blk_frozen BK506.out 5; have hfz30_6 := blk_frozen BK506.out 6; have hfz30_7 := blk_frozen BK506.out 7))
  refine bodyPost_ret (results_ct rfl _ _ gb506 35 #[.int .i64 0, .int .i64 0, .int .i64 0, .int .i64 0, .int .i64 0, .int .i64 0, .int .i64 0, .string (⟨#[]⟩ : ByteArray)] (0, 0) _ rfl (by (with_reducible repeat (first | apply k1_ | apply k2_ | apply k3_)); refine blk_put (cs := #[.int .i64 0, .int .i64 0, .int .i64 0, .int .i64 0, .int .i64 0, .int .i64 0, .int .i64 0, .string (⟨#[]⟩ : ByteArray)]) ?_ 7 _ rfl; (with_reducible repeat (first | apply k1_ | apply k2_ | apply k3_)); refine blk_put (cs := #[.int .i64 0, .int .i64 0, .int .i64 0, .int .i64 0, .int .i64 0, .int .i64 0, .int .i64 0, .string (⟨#[]⟩ : ByteArray)]) ?_ 6 _ rfl; (with_reducible repeat (first | apply k1_ | apply k2_ | apply k3_)); refine blk_put (cs := #[.int .i64 0, .int .i64 0, .int .i64 0, .int .i64 0, .int .i64 0, .int .i64 0, .int .i64 0, .string (⟨#[]⟩ : ByteArray)]) ?_ 5 _ rfl; (with_reducible repeat (first | apply k1_ | apply k2_ | apply k3_)); refine blk_put (cs := #[.int .i64 0, .int .i64 0, .int .i64 0, .int .i64 0, .int .i64 0, .int .i64 0, .int .i64 0, .string (⟨#[]⟩ : ByteArray)]) ?_ 4 _ rfl; (with_reducible repeat (first | apply k1_ | apply k2_ | apply k3_)); refine blk_put (cs := #[.int .i64 0, .int .i64 0, .int .i64 0, .int .i64 0, .int .i64 0, .int .i64 0, .int .i64 0, .string (⟨#[]⟩ : ByteArray)]) ?_ 3 _ rfl; (with_reducible repeat (first | apply k1_ | apply k2_ | apply k3_)); refine blk_put (cs := #[.int .i64 0, .int .i64 0, .int .i64 0, .int .i64 0, .int .i64 0, .int .i64 0, .int .i64 0, .string (⟨#[]⟩ : ByteArray)]) ?_ 2 _ rfl; (with_reducible repeat (first | apply k1_ | apply k2_ | apply k3_)); refine blk_put (cs := #[.int .i64 0, .int .i64 0, .int .i64 0, .int .i64 0, .int .i64 0, .int .i64 0, .int .i64 0, .string (⟨#[]⟩ : ByteArray)]) ?_ 1 _ rfl; (with_reducible repeat (first | apply k1_ | apply k2_ | apply k3_)); refine blk_put (cs := #[.int .i64 0, .int .i64 0, .int .i64 0, .int .i64 0, .int .i64 0, .int .i64 0, .int .i64 0, .string (⟨#[]⟩ : ByteArray)]) ?_ 0 _ rfl; (with_reducible repeat (first | apply k1_ | apply k2_ | apply k3_)); exact BK506.out) Tryd.underlying35 rfl (by kernel_rfl)) rfl ?_
  exact ⟨by first | rfl | (simp [e1_, e2_] <;> rfl) | (simp [*, e1_, e2_] <;> rfl) | (simp [e3_, e4_]; done) | (simp [*, e3_, e4_]; done), by repeat (first | (with_reducible first | exact HB.out | apply b1_ | apply b2_ | apply b3_ | refine below_set ?_ GE505.out | refine below_set ?_ GE506.out | refine below_set ?_ GE507.out) | exact HB.out)⟩
set_option maxHeartbeats 8000000 in
set_option maxRecDepth 100000 in
theorem laws_eqAnswer.calls (a0_0 : Int) (a0_1 : Int) (a0_2 : Int) (a0_3 : Int) (a1_0 : Int) (a1_1 : Int) (a1_2 : Int) (a1_3 : Int) (r : Bool) (w : World) (h : laws_eqAnswer.f a0_0 a0_1 a0_2 a0_3 a1_0 a1_1 a1_2 a1_3 = some r) :
  Calls Tryd.prog 65 #[.agg #[.int .i64 a0_0, .int .i64 a0_1, .int .i64 a0_2, .int .i64 a0_3], .agg #[.int .i64 a1_0, .int .i64 a1_1, .int .i64 a1_2, .int .i64 a1_3]] w fun e w' => e = .returned (.bool r) ∧ Below w.heap.size w w' := by
 have hu33 := Tryd.underlying33
 have HB := am_ (Below.refl w.heap.size w)
 have H : (if a0_0 = a1_0 then (if a0_1 = a1_1 then (if a0_2 = a1_2 then (if a0_3 = a1_3 then (some true) else (some false)) else (some false)) else (some false)) else (some false)) = some r := h
 clear h
 by_cases c3 : a0_0 = a1_0
 ·rw [if_pos c3] at H
  have c3b0 : (a0_0 == a1_0) = true := beq_iff_eq.mpr c3
  have c3b1 : (a0_0 != a1_0) = false := bne_eq_false_iff_eq.mpr c3
  clear c3
  by_cases c4 : a0_1 = a1_1
  ·rw [if_pos c4] at H
   have c4b0 : (a0_1 == a1_1) = true := beq_iff_eq.mpr c4
   have c4b1 : (a0_1 != a1_1) = false := bne_eq_false_iff_eq.mpr c4
   clear c4
   by_cases c5 : a0_2 = a1_2
   ·rw [if_pos c5] at H
    have c5b0 : (a0_2 == a1_2) = true := beq_iff_eq.mpr c5
    have c5b1 : (a0_2 != a1_2) = false := bne_eq_false_iff_eq.mpr c5
    clear c5
    by_cases c6 : a0_3 = a1_3
    ·rw [if_pos c6] at H
     have c6b0 : (a0_3 == a1_3) = true := beq_iff_eq.mpr c6
     have c6b1 : (a0_3 != a1_3) = false := bne_eq_false_iff_eq.mpr c6
     clear c6
     obtain rfl := Option.some.inj H
     go_enter Tryd.func65, Tryd.ntmps65
     go_wp2_with (first | ((with_reducible refine gate_dst (N := 2) rfl ?_); refine box_event ?hg (N := 2) ?hd (cs := #[.int .i64 a0_0, .int .i64 a0_1, .int .i64 a0_2, .int .i64 a0_3]) (t := 33) ?hr ?_; (case hd => rfl); (case hg => rfl); (case hr => first | (go_simp; done) | (go_simp; rfl)); intro gb510 hg w7 hbox hb; have n0_ := am_ (below_step (by repeat (first | (with_reducible first | exact HB.out | apply b1_ | apply b2_ | apply b3_) | exact HB.out)) hb); have n1_ := am_ (hbox); have n2_ := am_ ((by rw [hg]; exact (below_size (by repeat (first | (with_reducible first | exact HB.out | apply b1_ | apply b2_ | apply b3_) | exact HB.out))) : w.heap.size ≤ gb510)); have n3_ := am_ ((by rw [hg]; exact (below_size (by repeat (first | (with_reducible first | exact HB.out | apply b1_ | apply b2_ | apply b3_) | exact HB.out))) : w.heap.size ≤ gb510)); clear HB; have HB := n0_; have BK510 := n1_; have GW510 := n2_; have GE510 := n3_; clear n0_ n1_ n2_ n3_; clear hb hbox hg) | ((with_reducible refine gate_dst (N := 3) rfl ?_); refine box_event ?hg (N := 3) ?hd (cs := #[.int .i64 a1_0, .int .i64 a1_1, .int .i64 a1_2, .int .i64 a1_3]) (t := 33) ?hr ?_; (case hd => rfl); (case hg => rfl); (case hr => first | (go_simp; done) | (go_simp; rfl)); intro gb511 hg w8 hbox hb; have n0_ := am_ (blk_below (g := gb510) (o := .cells #[.int .i64 a0_0, .int .i64 a0_1, .int .i64 a0_2, .int .i64 a0_3] 33 (0, 0)) (by (with_reducible repeat (first | apply k1_ | apply k2_ | apply k3_)); exact BK510.out) hb); have n1_ := am_ (below_step (by repeat (first | (with_reducible first | exact HB.out | apply b1_ | apply b2_ | apply b3_ | refine below_set ?_ GE510.out) | exact HB.out)) hb); have n2_ := am_ (hbox); have n3_ := am_ ((by rw [hg]; exact (below_size (by repeat (first | (with_reducible first | exact HB.out | apply b1_ | apply b2_ | apply b3_ | refine below_set ?_ GE510.out) | exact HB.out))) : w.heap.size ≤ gb511)); have n4_ := am_ ((by rw [hg]; exact (below_size (by repeat (first | (with_reducible first | exact HB.out | apply b1_ | apply b2_ | apply b3_ | refine below_set ?_ GE510.out) | exact HB.out))) : w.heap.size ≤ gb511)); have n5_ := am_ ((by rw [hg]; exact Nat.ne_of_lt (blk_lt (g := gb510) (o := .cells #[.int .i64 a0_0, .int .i64 a0_1, .int .i64 a0_2, .int .i64 a0_3] 33 (0, 0)) (by (with_reducible repeat (first | apply k1_ | apply k2_ | apply k3_)); exact BK510.out)) : gb510 ≠ gb511)); have n6_ := am_ ((by rw [hg]; exact Nat.ne_of_gt (blk_lt (g := gb510) (o := .cells #[.int .i64 a0_0, .int .i64 a0_1, .int .i64 a0_2, .int .i64 a0_3] 33 (0, 0)) (by (with_reducible repeat (first | apply k1_ | apply k2_ | apply k3_)); exact BK510.out)) : gb511 ≠ gb510)); clear BK510; clear HB; have BK510 := n0_; have HB := n1_; have BK511 := n2_; have GW511 := n3_; have GE511 := n4_; have NB510_511 := n5_; have NB511_510 := n6_; clear n0_ n1_ n2_ n3_ n4_ n5_ n6_; clear hb hbox hg; have hnb9 := NB510_511.out; have hnc9 := NB511_510.out; have hcz10_0 : w8.cell? ⟨gb510, 0, none⟩ = some (.int .i64 a0_0) := (blk_cell BK510.out 0).trans rfl; have hcz10_1 : w8.cell? ⟨gb510, 1, none⟩ = some (.int .i64 a0_1) := (blk_cell BK510.out 1).trans rfl; have hcz10_2 : w8.cell? ⟨gb510, 2, none⟩ = some (.int .i64 a0_2) := (blk_cell BK510.out 2).trans rfl; have hcz10_3 : w8.cell? ⟨gb510, 3, none⟩ = some (.int .i64 a0_3) := (blk_cell BK510.out 3).trans rfl; have hfz10_0 := blk_frozen BK510.out 0; have hfz10_1 := blk_frozen BK510.out 1; have hfz10_2 := blk_frozen BK510.out 2; have hfz10_3 := blk_frozen BK510.out 3; have hcz11_0 : w8.cell? ⟨gb511, 0, none⟩ = some (.int .i64 a1_0) := (blk_cell BK511.out 0).trans rfl; have hcz11_1 : w8.cell? ⟨gb511, 1, none⟩ = some (.int .i64 a1_1) := (blk_cell BK511.out 1).trans rfl; have hcz11_2 : w8.cell? ⟨gb511, 2, none⟩ = some (.int .i64 a1_2) := (blk_cell BK511.out 2).trans rfl; have hcz11_3 : w8.cell? ⟨gb511, 3, none⟩ = some (.int .i64 a1_3) := (blk_cell BK511.out 3).trans rfl; have hfz11_0 := blk_frozen BK511.out 0; have hfz11_1 := blk_frozen BK511.out 1; have hfz11_2 := blk_frozen BK511.out 2; have hfz11_3 := blk_frozen BK511.out 3))
     go_ret
     exact ⟨by first | rfl | (simp [e1_, e2_] <;> rfl) | (simp [*, e1_, e2_] <;> rfl) | (simp [e3_, e4_]; done) | (simp [*, e3_, e4_]; done), by repeat (first | (with_reducible first | exact HB.out | apply b1_ | apply b2_ | apply b3_ | refine below_set ?_ GE510.out | refine below_set ?_ GE511.out) | exact HB.out)⟩
    ·rw [if_neg c6] at H
     have c6b0 : (a0_3 == a1_3) = false := beq_eq_false_iff_ne.mpr c6
     have c6b1 : (a0_3 != a1_3) = true := bne_iff_ne.mpr c6
     obtain rfl := Option.some.inj H
     go_enter Tryd.func65, Tryd.ntmps65
     go_wp2_with (first | ((with_reducible refine gate_dst (N := 2) rfl ?_); refine box_event ?hg (N := 2) ?hd (cs := #[.int .i64 a0_0, .int .i64 a0_1, .int .i64 a0_2, .int .i64 a0_3]) (t := 33) ?hr ?_; (case hd => rfl); (case hg => rfl); (case hr => first | (go_simp; done) | (go_simp; rfl)); intro gb510 hg w12 hbox hb; have n0_ := am_ (below_step (by repeat (first | (with_reducible first | exact HB.out | apply b1_ | apply b2_ | apply b3_) | exact HB.out)) hb); have n1_ := am_ (hbox); have n2_ := am_ ((by rw [hg]; exact (below_size (by repeat (first | (with_reducible first | exact HB.out | apply b1_ | apply b2_ | apply b3_) | exact HB.out))) : w.heap.size ≤ gb510)); have n3_ := am_ ((by rw [hg]; exact (below_size (by repeat (first | (with_reducible first | exact HB.out | apply b1_ | apply b2_ | apply b3_) | exact HB.out))) : w.heap.size ≤ gb510)); clear HB; have HB := n0_; have BK510 := n1_; have GW510 := n2_; have GE510 := n3_; clear n0_ n1_ n2_ n3_; clear hb hbox hg) | ((with_reducible refine gate_dst (N := 3) rfl ?_); refine box_event ?hg (N := 3) ?hd (cs := #[.int .i64 a1_0, .int .i64 a1_1, .int .i64 a1_2, .int .i64 a1_3]) (t := 33) ?hr ?_; (case hd => rfl); (case hg => rfl); (case hr => first | (go_simp; done) | (go_simp; rfl)); intro gb511 hg w13 hbox hb; have n0_ := am_ (blk_below (g := gb510) (o := .cells #[.int .i64 a0_0, .int .i64 a0_1, .int .i64 a0_2, .int .i64 a0_3] 33 (0, 0)) (by (with_reducible repeat (first | apply k1_ | apply k2_ | apply k3_)); exact BK510.out) hb); have n1_ := am_ (below_step (by repeat (first | (with_reducible first | exact HB.out | apply b1_ | apply b2_ | apply b3_ | refine below_set ?_ GE510.out) | exact HB.out)) hb); have n2_ := am_ (hbox); have n3_ := am_ ((by rw [hg]; exact (below_size (by repeat (first | (with_reducible first | exact HB.out | apply b1_ | apply b2_ | apply b3_ | refine below_set ?_ GE510.out) | exact HB.out))) : w.heap.size ≤ gb511)); have n4_ := am_ ((by rw [hg]; exact (below_size (by repeat (first | (with_reducible first | exact HB.out | apply b1_ | apply b2_ | apply b3_ | refine below_set ?_ GE510.out) | exact HB.out))) : w.heap.size ≤ gb511)); have n5_ := am_ ((by rw [hg]; exact Nat.ne_of_lt (blk_lt (g := gb510) (o := .cells #[.int .i64 a0_0, .int .i64 a0_1, .int .i64 a0_2, .int .i64 a0_3] 33 (0, 0)) (by (with_reducible repeat (first | apply k1_ | apply k2_ | apply k3_)); exact BK510.out)) : gb510 ≠ gb511)); have n6_ := am_ ((by rw [hg]; exact Nat.ne_of_gt (blk_lt (g := gb510) (o := .cells #[.int .i64 a0_0, .int .i64 a0_1, .int .i64 a0_2, .int .i64 a0_3] 33 (0, 0)) (by (with_reducible repeat (first | apply k1_ | apply k2_ | apply k3_)); exact BK510.out)) : gb511 ≠ gb510)); clear BK510; clear HB; have BK510 := n0_; have HB := n1_; have BK511 := n2_; have GW511 := n3_; have GE511 := n4_; have NB510_511 := n5_; have NB511_510 := n6_; clear n0_ n1_ n2_ n3_ n4_ n5_ n6_; clear hb hbox hg; have hnb14 := NB510_511.out; have hnc14 := NB511_510.out; have hcz15_0 : w13.cell? ⟨gb510, 0, none⟩ = some (.int .i64 a0_0) := (blk_cell BK510.out 0).trans rfl; have hcz15_1 : w13.cell? ⟨gb510, 1, none⟩ = some (.int .i64 a0_1) := (blk_cell BK510.out 1).trans rfl; have hcz15_2 : w13.cell? ⟨gb510, 2, none⟩ = some (.int .i64 a0_2) := (blk_cell BK510.out 2).trans rfl; have hcz15_3 : w13.cell? ⟨gb510, 3, none⟩ = some (.int .i64 a0_3) := (blk_cell BK510.out 3).trans rfl; have hfz15_0 := blk_frozen BK510.out 0; have hfz15_1 := blk_frozen BK510.out 1; have hfz15_2 := blk_frozen BK510.out 2; have hfz15_3 := blk_frozen BK510.out 3; have hcz16_0 : w13.cell? ⟨gb511, 0, none⟩ = some (.int .i64 a1_0) := (blk_cell BK511.out 0).trans rfl; have hcz16_1 : w13.cell? ⟨gb511, 1, none⟩ = some (.int .i64 a1_1) := (blk_cell BK511.out 1).trans rfl; have hcz16_2 : w13.cell? ⟨gb511, 2, none⟩ = some (.int .i64 a1_2) := (blk_cell BK511.out 2).trans rfl; have hcz16_3 : w13.cell? ⟨gb511, 3, none⟩ = some (.int .i64 a1_3) := (blk_cell BK511.out 3).trans rfl; have hfz16_0 := blk_frozen BK511.out 0; have hfz16_1 := blk_frozen BK511.out 1; have hfz16_2 := blk_frozen BK511.out 2; have hfz16_3 := blk_frozen BK511.out 3))
     go_ret
     exact ⟨by first | rfl | (simp [e1_, e2_] <;> rfl) | (simp [*, e1_, e2_] <;> rfl) | (simp [e3_, e4_]; done) | (simp [*, e3_, e4_]; done), by repeat (first | (with_reducible first | exact HB.out | apply b1_ | apply b2_ | apply b3_ | refine below_set ?_ GE510.out | refine below_set ?_ GE511.out) | exact HB.out)⟩
   ·rw [if_neg c5] at H
    have c5b0 : (a0_2 == a1_2) = false := beq_eq_false_iff_ne.mpr c5
    have c5b1 : (a0_2 != a1_2) = true := bne_iff_ne.mpr c5
    obtain rfl := Option.some.inj H
    go_enter Tryd.func65, Tryd.ntmps65
    go_wp2_with (first | ((with_reducible refine gate_dst (N := 2) rfl ?_); refine box_event ?hg (N := 2) ?hd (cs := #[.int .i64 a0_0, .int .i64 a0_1, .int .i64 a0_2, .int .i64 a0_3]) (t := 33) ?hr ?_; (case hd => rfl); (case hg => rfl); (case hr => first | (go_simp; done) | (go_simp; rfl)); intro gb510 hg w17 hbox hb; have n0_ := am_ (below_step (by repeat (first | (with_reducible first | exact HB.out | apply b1_ | apply b2_ | apply b3_) | exact HB.out)) hb); have n1_ := am_ (hbox); have n2_ := am_ ((by rw [hg]; exact (below_size (by repeat (first | (with_reducible first | exact HB.out | apply b1_ | apply b2_ | apply b3_) | exact HB.out))) : w.heap.size ≤ gb510)); have n3_ := am_ ((by rw [hg]; exact (below_size (by repeat (first | (with_reducible first | exact HB.out | apply b1_ | apply b2_ | apply b3_) | exact HB.out))) : w.heap.size ≤ gb510)); clear HB; have HB := n0_; have BK510 := n1_; have GW510 := n2_; have GE510 := n3_; clear n0_ n1_ n2_ n3_; clear hb hbox hg) | ((with_reducible refine gate_dst (N := 3) rfl ?_); refine box_event ?hg (N := 3) ?hd (cs := #[.int .i64 a1_0, .int .i64 a1_1, .int .i64 a1_2, .int .i64 a1_3]) (t := 33) ?hr ?_; (case hd => rfl); (case hg => rfl); (case hr => first | (go_simp; done) | (go_simp; rfl)); intro gb511 hg w18 hbox hb; have n0_ := am_ (blk_below (g := gb510) (o := .cells #[.int .i64 a0_0, .int .i64 a0_1, .int .i64 a0_2, .int .i64 a0_3] 33 (0, 0)) (by (with_reducible repeat (first | apply k1_ | apply k2_ | apply k3_)); exact BK510.out) hb); have n1_ := am_ (below_step (by repeat (first | (with_reducible first | exact HB.out | apply b1_ | apply b2_ | apply b3_ | refine below_set ?_ GE510.out) | exact HB.out)) hb); have n2_ := am_ (hbox); have n3_ := am_ ((by rw [hg]; exact (below_size (by repeat (first | (with_reducible first | exact HB.out | apply b1_ | apply b2_ | apply b3_ | refine below_set ?_ GE510.out) | exact HB.out))) : w.heap.size ≤ gb511)); have n4_ := am_ ((by rw [hg]; exact (below_size (by repeat (first | (with_reducible first | exact HB.out | apply b1_ | apply b2_ | apply b3_ | refine below_set ?_ GE510.out) | exact HB.out))) : w.heap.size ≤ gb511)); have n5_ := am_ ((by rw [hg]; exact Nat.ne_of_lt (blk_lt (g := gb510) (o := .cells #[.int .i64 a0_0, .int .i64 a0_1, .int .i64 a0_2, .int .i64 a0_3] 33 (0, 0)) (by (with_reducible repeat (first | apply k1_ | apply k2_ | apply k3_)); exact BK510.out)) : gb510 ≠ gb511)); have n6_ := am_ ((by rw [hg]; exact Nat.ne_of_gt (blk_lt (g := gb510) (o := .cells #[.int .i64 a0_0, .int .i64 a0_1, .int .i64 a0_2, .int .i64 a0_3] 33 (0, 0)) (by (with_reducible repeat (first | apply k1_ | apply k2_ | apply k3_)); exact BK510.out)) : gb511 ≠ gb510)); clear BK510; clear HB; have BK510 := n0_; have HB := n1_; have BK511 := n2_; have GW511 := n3_; have GE511 := n4_; have NB510_511 := n5_; have NB511_510 := n6_; clear n0_ n1_ n2_ n3_ n4_ n5_ n6_; clear hb hbox hg; have hnb19 := NB510_511.out; have hnc19 := NB511_510.out; have hcz20_0 : w18.cell? ⟨gb510, 0, none⟩ = some (.int .i64 a0_0) := (blk_cell BK510.out 0).trans rfl; have hcz20_1 : w18.cell? ⟨gb510, 1, none⟩ = some (.int .i64 a0_1) := (blk_cell BK510.out 1).trans rfl; have hcz20_2 : w18.cell? ⟨gb510, 2, none⟩ = some (.int .i64 a0_2) := (blk_cell BK510.out 2).trans rfl; have hcz20_3 : w18.cell? ⟨gb510, 3, none⟩ = some (.int .i64 a0_3) := (blk_cell BK510.out 3).trans rfl; have hfz20_0 := blk_frozen BK510.out 0; have hfz20_1 := blk_frozen BK510.out 1; have hfz20_2 := blk_frozen BK510.out 2; have hfz20_3 := blk_frozen BK510.out 3; have hcz21_0 : w18.cell? ⟨gb511, 0, none⟩ = some (.int .i64 a1_0) := (blk_cell BK511.out 0).trans rfl; have hcz21_1 : w18.cell? ⟨gb511, 1, none⟩ = some (.int .i64 a1_1) := (blk_cell BK511.out 1).trans rfl; have hcz21_2 : w18.cell? ⟨gb511, 2, none⟩ = some (.int .i64 a1_2) := (blk_cell BK511.out 2).trans rfl; have hcz21_3 : w18.cell? ⟨gb511, 3, none⟩ = some (.int .i64 a1_3) := (blk_cell BK511.out 3).trans rfl; have hfz21_0 := blk_frozen BK511.out 0; have hfz21_1 := blk_frozen BK511.out 1; have hfz21_2 := blk_frozen BK511.out 2; have hfz21_3 := blk_frozen BK511.out 3))
    go_ret
    exact ⟨by first | rfl | (simp [e1_, e2_] <;> rfl) | (simp [*, e1_, e2_] <;> rfl) | (simp [e3_, e4_]; done) | (simp [*, e3_, e4_]; done), by repeat (first | (with_reducible first | exact HB.out | apply b1_ | apply b2_ | apply b3_ | refine below_set ?_ GE510.out | refine below_set ?_ GE511.out) | exact HB.out)⟩
  ·rw [if_neg c4] at H
   have c4b0 : (a0_1 == a1_1) = false := beq_eq_false_iff_ne.mpr c4
   have c4b1 : (a0_1 != a1_1) = true := bne_iff_ne.mpr c4
   obtain rfl := Option.some.inj H
   go_enter Tryd.func65, Tryd.ntmps65
   go_wp2_with (first | ((with_reducible refine gate_dst (N := 2) rfl ?_); refine box_event ?hg (N := 2) ?hd (cs := #[.int .i64 a0_0, .int .i64 a0_1, .int .i64 a0_2, .int .i64 a0_3]) (t := 33) ?hr ?_; (case hd => rfl); (case hg => rfl); (case hr => first | (go_simp; done) | (go_simp; rfl)); intro gb510 hg w22 hbox hb; have n0_ := am_ (below_step (by repeat (first | (with_reducible first | exact HB.out | apply b1_ | apply b2_ | apply b3_) | exact HB.out)) hb); have n1_ := am_ (hbox); have n2_ := am_ ((by rw [hg]; exact (below_size (by repeat (first | (with_reducible first | exact HB.out | apply b1_ | apply b2_ | apply b3_) | exact HB.out))) : w.heap.size ≤ gb510)); have n3_ := am_ ((by rw [hg]; exact (below_size (by repeat (first | (with_reducible first | exact HB.out | apply b1_ | apply b2_ | apply b3_) | exact HB.out))) : w.heap.size ≤ gb510)); clear HB; have HB := n0_; have BK510 := n1_; have GW510 := n2_; have GE510 := n3_; clear n0_ n1_ n2_ n3_; clear hb hbox hg) | ((with_reducible refine gate_dst (N := 3) rfl ?_); refine box_event ?hg (N := 3) ?hd (cs := #[.int .i64 a1_0, .int .i64 a1_1, .int .i64 a1_2, .int .i64 a1_3]) (t := 33) ?hr ?_; (case hd => rfl); (case hg => rfl); (case hr => first | (go_simp; done) | (go_simp; rfl)); intro gb511 hg w23 hbox hb; have n0_ := am_ (blk_below (g := gb510) (o := .cells #[.int .i64 a0_0, .int .i64 a0_1, .int .i64 a0_2, .int .i64 a0_3] 33 (0, 0)) (by (with_reducible repeat (first | apply k1_ | apply k2_ | apply k3_)); exact BK510.out) hb); have n1_ := am_ (below_step (by repeat (first | (with_reducible first | exact HB.out | apply b1_ | apply b2_ | apply b3_ | refine below_set ?_ GE510.out) | exact HB.out)) hb); have n2_ := am_ (hbox); have n3_ := am_ ((by rw [hg]; exact (below_size (by repeat (first | (with_reducible first | exact HB.out | apply b1_ | apply b2_ | apply b3_ | refine below_set ?_ GE510.out) | exact HB.out))) : w.heap.size ≤ gb511)); have n4_ := am_ ((by rw [hg]; exact (below_size (by repeat (first | (with_reducible first | exact HB.out | apply b1_ | apply b2_ | apply b3_ | refine below_set ?_ GE510.out) | exact HB.out))) : w.heap.size ≤ gb511)); have n5_ := am_ ((by rw [hg]; exact Nat.ne_of_lt (blk_lt (g := gb510) (o := .cells #[.int .i64 a0_0, .int .i64 a0_1, .int .i64 a0_2, .int .i64 a0_3] 33 (0, 0)) (by (with_reducible repeat (first | apply k1_ | apply k2_ | apply k3_)); exact BK510.out)) : gb510 ≠ gb511)); have n6_ := am_ ((by rw [hg]; exact Nat.ne_of_gt (blk_lt (g := gb510) (o := .cells #[.int .i64 a0_0, .int .i64 a0_1, .int .i64 a0_2, .int .i64 a0_3] 33 (0, 0)) (by (with_reducible repeat (first | apply k1_ | apply k2_ | apply k3_)); exact BK510.out)) : gb511 ≠ gb510)); clear BK510; clear HB; have BK510 := n0_; have HB := n1_; have BK511 := n2_; have GW511 := n3_; have GE511 := n4_; have NB510_511 := n5_; have NB511_510 := n6_; clear n0_ n1_ n2_ n3_ n4_ n5_ n6_; clear hb hbox hg; have hnb24 := NB510_511.out; have hnc24 := NB511_510.out; have hcz25_0 : w23.cell? ⟨gb510, 0, none⟩ = some (.int .i64 a0_0) := (blk_cell BK510.out 0).trans rfl; have hcz25_1 : w23.cell? ⟨gb510, 1, none⟩ = some (.int .i64 a0_1) := (blk_cell BK510.out 1).trans rfl; have hcz25_2 : w23.cell? ⟨gb510, 2, none⟩ = some (.int .i64 a0_2) := (blk_cell BK510.out 2).trans rfl; have hcz25_3 : w23.cell? ⟨gb510, 3, none⟩ = some (.int .i64 a0_3) := (blk_cell BK510.out 3).trans rfl; have hfz25_0 := blk_frozen BK510.out 0; have hfz25_1 := blk_frozen BK510.out 1; have hfz25_2 := blk_frozen BK510.out 2; have hfz25_3 := blk_frozen BK510.out 3; have hcz26_0 : w23.cell? ⟨gb511, 0, none⟩ = some (.int .i64 a1_0) := (blk_cell BK511.out 0).trans rfl; have hcz26_1 : w23.cell? ⟨gb511, 1, none⟩ = some (.int .i64 a1_1) := (blk_cell BK511.out 1).trans rfl; have hcz26_2 : w23.cell? ⟨gb511, 2, none⟩ = some (.int .i64 a1_2) := (blk_cell BK511.out 2).trans rfl; have hcz26_3 : w23.cell? ⟨gb511, 3, none⟩ = some (.int .i64 a1_3) := (blk_cell BK511.out 3).trans rfl; have hfz26_0 := blk_frozen BK511.out 0; have hfz26_1 := blk_frozen BK511.out 1; have hfz26_2 := blk_frozen BK511.out 2; have hfz26_3 := blk_frozen BK511.out 3))
   go_ret
   exact ⟨by first | rfl | (simp [e1_, e2_] <;> rfl) | (simp [*, e1_, e2_] <;> rfl) | (simp [e3_, e4_]; done) | (simp [*, e3_, e4_]; done), by repeat (first | (with_reducible first | exact HB.out | apply b1_ | apply b2_ | apply b3_ | refine below_set ?_ GE510.out | refine below_set ?_ GE511.out) | exact HB.out)⟩
 ·rw [if_neg c3] at H
  have c3b0 : (a0_0 == a1_0) = false := beq_eq_false_iff_ne.mpr c3
  have c3b1 : (a0_0 != a1_0) = true := bne_iff_ne.mpr c3
  obtain rfl := Option.some.inj H
  go_enter Tryd.func65, Tryd.ntmps65
  go_wp2_with (first | ((with_reducible refine gate_dst (N := 2) rfl ?_); refine box_event ?hg (N := 2) ?hd (cs := #[.int .i64 a0_0, .int .i64 a0_1, .int .i64 a0_2, .int .i64 a0_3]) (t := 33) ?hr ?_; (case hd => rfl); (case hg => rfl); (case hr => first | (go_simp; done) | (go_simp; rfl)); intro gb510 hg w27 hbox hb; have n0_ := am_ (below_step (by repeat (first | (with_reducible first | exact HB.out | apply b1_ | apply b2_ | apply b3_) | exact HB.out)) hb); have n1_ := am_ (hbox); have n2_ := am_ ((by rw [hg]; exact (below_size (by repeat (first | (with_reducible first | exact HB.out | apply b1_ | apply b2_ | apply b3_) | exact HB.out))) : w.heap.size ≤ gb510)); have n3_ := am_ ((by rw [hg]; exact (below_size (by repeat (first | (with_reducible first | exact HB.out | apply b1_ | apply b2_ | apply b3_) | exact HB.out))) : w.heap.size ≤ gb510)); clear HB; have HB := n0_; have BK510 := n1_; have GW510 := n2_; have GE510 := n3_; clear n0_ n1_ n2_ n3_; clear hb hbox hg) | ((with_reducible refine gate_dst (N := 3) rfl ?_); refine box_event ?hg (N := 3) ?hd (cs := #[.int .i64 a1_0, .int .i64 a1_1, .int .i64 a1_2, .int .i64 a1_3]) (t := 33) ?hr ?_; (case hd => rfl); (case hg => rfl); (case hr => first | (go_simp; done) | (go_simp; rfl)); intro gb511 hg w28 hbox hb; have n0_ := am_ (blk_below (g := gb510) (o := .cells #[.int .i64 a0_0, .int .i64 a0_1, .int .i64 a0_2, .int .i64 a0_3] 33 (0, 0)) (by (with_reducible repeat (first | apply k1_ | apply k2_ | apply k3_)); exact BK510.out) hb); have n1_ := am_ (below_step (by repeat (first | (with_reducible first | exact HB.out | apply b1_ | apply b2_ | apply b3_ | refine below_set ?_ GE510.out) | exact HB.out)) hb); have n2_ := am_ (hbox); have n3_ := am_ ((by rw [hg]; exact (below_size (by repeat (first | (with_reducible first | exact HB.out | apply b1_ | apply b2_ | apply b3_ | refine below_set ?_ GE510.out) | exact HB.out))) : w.heap.size ≤ gb511)); have n4_ := am_ ((by rw [hg]; exact (below_size (by repeat (first | (with_reducible first | exact HB.out | apply b1_ | apply b2_ | apply b3_ | refine below_set ?_ GE510.out) | exact HB.out))) : w.heap.size ≤ gb511)); have n5_ := am_ ((by rw [hg]; exact Nat.ne_of_lt (blk_lt (g := gb510) (o := .cells #[.int .i64 a0_0, .int .i64 a0_1, .int .i64 a0_2, .int .i64 a0_3] 33 (0, 0)) (by (with_reducible repeat (first | apply k1_ | apply k2_ | apply k3_)); exact BK510.out)) : gb510 ≠ gb511)); have n6_ := am_ ((by rw [hg]; exact Nat.ne_of_gt (blk_lt (g := gb510) (o := .cells #[.int .i64 a0_0, .int .i64 a0_1, .int .i64 a0_2, .int .i64 a0_3] 33 (0, 0)) (by (with_reducible repeat (first | apply k1_ | apply k2_ | apply k3_)); exact BK510.out)) : gb511 ≠ gb510)); clear BK510; clear HB; have BK510 := n0_; have HB := n1_; have BK511 := n2_; have GW511 := n3_; have GE511 := n4_; have NB510_511 := n5_; have NB511_510 := n6_; clear n0_ n1_ n2_ n3_ n4_ n5_ n6_; clear hb hbox hg; have hnb29 := NB510_511.out; have hnc29 := NB511_510.out; have hcz30_0 : w28.cell? ⟨gb510, 0, none⟩ = some (.int .i64 a0_0) := (blk_cell BK510.out 0).trans rfl; have hcz30_1 : w28.cell? ⟨gb510, 1, none⟩ = some (.int .i64 a0_1) := (blk_cell BK510.out 1).trans rfl; have hcz30_2 : w28.cell? ⟨gb510, 2, none⟩ = some (.int .i64 a0_2) := (blk_cell BK510.out 2).trans rfl; have hcz30_3 : w28.cell? ⟨gb510, 3, none⟩ = some (.int .i64 a0_3) := (blk_cell BK510.out 3).trans rfl; have hfz30_0 := blk_frozen BK510.out 0; have hfz30_1 := blk_frozen BK510.out 1; have hfz30_2 := blk_frozen BK510.out 2; have hfz30_3 := blk_frozen BK510.out 3; have hcz31_0 : w28.cell? ⟨gb511, 0, none⟩ = some (.int .i64 a1_0) := (blk_cell BK511.out 0).trans rfl; have hcz31_1 : w28.cell? ⟨gb511, 1, none⟩ = some (.int .i64 a1_1) := (blk_cell BK511.out 1).trans rfl; have hcz31_2 : w28.cell? ⟨gb511, 2, none⟩ = some (.int .i64 a1_2) := (blk_cell BK511.out 2).trans rfl; have hcz31_3 : w28.cell? ⟨gb511, 3, none⟩ = some (.int .i64 a1_3) := (blk_cell BK511.out 3).trans rfl; have hfz31_0 := blk_frozen BK511.out 0; have hfz31_1 := blk_frozen BK511.out 1; have hfz31_2 := blk_frozen BK511.out 2; have hfz31_3 := blk_frozen BK511.out 3))
  go_ret
  exact ⟨by first | rfl | (simp [e1_, e2_] <;> rfl) | (simp [*, e1_, e2_] <;> rfl) | (simp [e3_, e4_]; done) | (simp [*, e3_, e4_]; done), by repeat (first | (with_reducible first | exact HB.out | apply b1_ | apply b2_ | apply b3_ | refine below_set ?_ GE510.out | refine below_set ?_ GE511.out) | exact HB.out)⟩
end Go.Proofs.YtdpdbegglkdgnaaDoor.A
end
