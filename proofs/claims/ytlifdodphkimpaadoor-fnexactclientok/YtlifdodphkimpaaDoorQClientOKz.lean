/- For every input the Go function FnExactClientOK returns true and leaves its arguments as they were. No conditions. -/
import Derived.Test.YtlifdodphkimpaaDoorRows
import Derived.Test.YtlifdodphkimpaaDoorCards
import Derived.Test.YtlifdodphkimpaaDoorTie
import Derived.Test.YtlifdodphkimpaaDoorQClientOKg
import Derived.OpenVars
import Derived.MakeChecks
import Derived.LaidMore
import Derived.Lib.LaidTab
import Derived.SevenTiedAt
import Derived.ChangeVars
import Derived.WalkKit
import Derived.ProofKit
import Derived.OpenShut
import Derived.ShutString
import Derived.ChangeOld
import Derived.Below
import Derived.SizedLaws
import Derived.WideShapes
set_option linter.unusedVariables false
set_option linter.unusedSimpArgs false
set_option linter.unusedSectionVars false
namespace Go.Proofs.YtlifdodphkimpaaDoor.fnExactClientOK
open Go.ChangeShapes Go.WideShapes Go.ChangeAt Go.RowKit Go.Proofs.YtlifdodphkimpaaDoor.B Go.Proofs.YtlifdodphkimpaaDoorW.PrintWords
open Go.ChangeMaps (open_string shut_string)
theorem own : ownKnob Tryd.prog.godebug = none := by kernel_rfl
theorem laidOut : laidOutB Tryd.prog = true := by kernel_rfl
theorem door_met (os : Os) (args : Array Value) : laidMetH Tryd.prog Rows.fnExactClientOKRow.laid ((World.doorLaid Tryd.prog 29 os).forCall (fun _ _ => 0) ⟨#[], args, []⟩).memory :=
  laidMetH_of_parts3 (fuel := 8) (laidMet_of_run' 8 (by kernel_rfl) (by kernel_rfl)) (by kernel_rfl) (by kernel_rfl)
theorem gWords : Tryd.prog.globalNamed "loop.example/g00292/impl.roundWords" = some 0 := by kernel_rfl
theorem tWords : (Tryd.prog.globals[0]?).map (·.type) = some 193 := by kernel_rfl
theorem tabWords {W : World} (h : laidMetH Tryd.prog Rows.fnExactClientOKRow.laid W) : Lib.TabIs Tryd.prog W "loop.example/g00292/impl.roundWords" .u32 roundKs := by
  rw [MakeChecks.laidMetH_plain _ _ _ (by kernel_rfl)] at h
  have h0 : laidMet Tryd.prog [("loop.example/g00292/impl.roundWords", Rows.laid_loop_example_g00292_impl_roundWords)] W := h
  exact Lib.tabIs_of_head (n := 64) gWords tWords Tryd.underlying193 Tryd.underlying174 (by kernel_rfl) (by kernel_rfl) (show laidMet Tryd.prog (("loop.example/g00292/impl.roundWords", Lib.tabData .u32 roundKs) :: []) W from h0)
theorem laid_w {W : World} (h : laidMetH Tryd.prog Rows.fnExactClientOKRow.laid W) : Laid W := ⟨fun j hj => (tabWords h).cell gWords j hj⟩
set_option maxRecDepth 100000 in
theorem lifted (os : Os) (started : os.Started) (H : Type) (enc : TypeId × Value → H) :
    ReturnsInHanded {} Tryd.checked os 8 .any (fun w args => (Rows.fnExactClientOKSpec.pre enc Tryd.prog Tryd.f8 Rows.fnExactClientOKRow.domain false w args ∧ laidMetH Tryd.prog Rows.fnExactClientOKRow.laid w) ∧ sizedMet enc Tryd.prog Tryd.f8 (OpenSpec.ofChange Rows.fnExactClientOKSpec) false w args) (Rows.fnExactClientOKSpec.post enc Tryd.prog Tryd.f8 false true false false) := by
  refine returnsInHanded_of_change_and (C := Tryd.checked) (X := fun w _ => laidMetH Tryd.prog Rows.fnExactClientOKRow.laid w) (fun _ _ _ hh h => h.of_heap hh) own started (by kernel_rfl) Tryd.func8
    (ChangeSpec.witness_shaped (enc := enc) (C := Tryd.checked) (os := os) (X := fun w _ => laidMetH Tryd.prog Rows.fnExactClientOKRow.laid w) false (World.doorLaid Tryd.prog 29 os) #[.int .i64 0, .agg #[.int .i64 0, .int .i64 0, .bool false, .int .i64 0, .int .i64 0, .int .i64 0, .int .i64 0, .string ByteArray.empty, .slice none 0 0, .slice none 0 0]] 8 rfl (World.shaped_of_RefB (by kernel_rfl) (by kernel_rfl)) (by kernel_rfl) (by kernel_rfl) (by kernel_rfl) (door_met os _)) ?_
  intro W base args ds gs before hval0 hW hcnd hsz0 hL _
  have hval : ∀ (j : Nat) t v, Tryd.f8.params[j]? = some t → args[j]? = some v → Value.okWide Tryd.prog W .any base t v := hval0
  have hW' := hW
  obtain ⟨p, q, hA0, hV, rfl, hfz, hnd⟩ := hW
  have hA : DataW.TrodAll enc Tryd.prog W 0 (fun _ => true) true Tryd.f8.params.toList args.toList ds p := hA0
  rw [Tryd.params8] at hA hval
  obtain ⟨v0, vs0, d0, ds0, p0, q0, hargs, rfl, rfl, h0, r0⟩ := trodAll_cons hA
  obtain ⟨v1, vs1, d1, ds1, p1, q1, rfl, rfl, rfl, h1, r1⟩ := trodAll_cons r0
  obtain ⟨rfl, rfl, rfl⟩ := trodAll_nil r1
  obtain rfl : args = #[v0, v1] := by cases args; simp_all
  obtain ⟨g1, rfl⟩ : ∃ g1, gs = [g1] := by
    obtain ⟨_, _, _, _, d_, _, e_, _⟩ := trodVars_one hV
    exact ⟨d_, e_⟩
  have hLd := laid_w hL
  obtain ⟨a0, rfl, rfl, rfl, w0⟩ := open_int Tryd.underlying3 (hval 0 3 v0 rfl rfl) h0
  have k1 := h1
  have lt1 : ∀ x ∈ p1, x.block < W.heap.size := by obtain ⟨m, hm⟩ := k1; exact DataW.trod_lt m _ _ _ hm
  obtain ⟨cs1, rfl, _⟩ := okWide_struct Tryd.underlying82 (hval 1 82 v1 rfl rfl)
  obtain ⟨y1, hK1, hG1⟩ := (fun (h : DataW.Trod enc Tryd.prog W 0 (fun _ => true) true 82 _ d1 p1) => h.elim (fun fuel hf => opens82 _ _ _ _ _ _ _ _ _ hf)) h1
  have hO1 := k82_open hK1
  obtain ⟨A1_8, c1_8, A1_9, c1_9, hcs1, hle1_8, hC1_8, hle1_9, hC1_9⟩ := hO1
  obtain rfl : cs1 = #[.int .i64 y1.f0, .int .i64 y1.f1, .bool y1.f2, .int .i64 y1.f3.f0, .int .i64 y1.f3.f1, .int .i64 y1.f3.f2, .int .i64 y1.f3.f3, .string y1.f3.f4, .slice A1_8 y1.f4.length c1_8, .slice A1_9 y1.f5.length c1_9] := by cases cs1; simpa [Value.cells] using hcs1
  clear hA0 hval0 hsz0
  obtain ⟨k_, hk_⟩ := lim_at (fun k_ => laws_FnExactClientOK.mono _ _ _ _ _ _ _ _ _ _ _ k_) (FnExactClientOK_pure a0 y1 w0 hG1)
  refine (laws_FnExactClientOK.calls k_ a0 y1.f0 y1.f1 y1.f2 y1.f3.f0 y1.f3.f1 y1.f3.f2 y1.f3.f3 y1.f3.f4 _ _ y1.f4 _ _ y1.f5 true W hC1_8 hle1_8 hC1_9 hle1_9 hLd hk_).mono fun e W' h_ => ?_
  obtain ⟨he, bel0⟩ := h_
  have bel : Below W.heap.size W W' := bel0
  subst he
  exact ⟨_, rfl, _, _, _, [], _, _, hW', trodAll_mk1 (shut_bool Tryd.underlying4 _), (trodAll_cons_mk (shut_int Tryd.underlying3 w0) (trodAll_cons_mk (Below.trod laidOut (by kernel_rfl) (of_decide_eq_true (by kernel_rfl)) k1 bel lt1) trodAll_mk0)), Below.trodVars laidOut bel (by kernel_rfl) hV, bel.frame _, fun h => by cases h⟩
theorem over : Rows.fnExactClientOKRow.holds Tryd.pinned (OpenSpec.ofChange Rows.fnExactClientOKSpec) :=
  OpenClaim.holds_of_wide 8 Tryd.f8 rfl rfl rfl rfl rfl rfl rfl ⟨rfl, rfl, rfl, rfl, rfl⟩ rfl rfl rfl rfl rfl (by kernel_rfl) Tryd.func8 (by kernel_rfl)
    (of_decide_eq_true (by kernel_rfl)) (by unfold Func.isWrapper; first | (rw [if_pos (by decide +kernel)]; kernel_rfl) | (rw [if_neg (by decide +kernel)]; exact ⟨rfl, rfl⟩))
    (fun os started H enc _ => lifted os started H enc)
theorem card_holds : Claim7.holds Tryd.pinned (.plain (OpenSpec.ofChange Rows.fnExactClientOKSpec)) Rows.fnExactClientOKCard :=
  Claim7.holds_tied_plain_at .later [] [.data] true (true, "910ecdd0d4dd2b8a09d50f934978821982c2079e81a45569d03ebf8da58e9ebb") false
    over (fun _ h => by cases h) (by kernel_rfl) (fun _ h => by cases h) fnExactClientOK_row_tie rfl ⟨rfl, rfl⟩ (by kernel_rfl) rfl
    (fun f fn hf hfn => by
      obtain rfl : f = 8 := Option.some.inj ((show Tryd.prog.funcNamed "loop.example/g00292/laws.FnExactClientOK" = some 8 by kernel_rfl).symm.trans hf) |>.symm
      obtain rfl : fn = Tryd.f8 := (Option.some.inj (Tryd.func8.symm.trans hfn)).symm
      exact ⟨by kernel_rfl, fun j t ht => by
        rw [Tryd.params8] at ht
        have hm : t ∈ [3, 82] := by simpa using Array.mem_of_getElem? ht
        have hall : ([3, 82].all fun u => !Tryd.prog.wantsStandIn u) = true := by kernel_rfl
        exact (show Tryd.prog.wantsStandIn t = false by simpa using List.all_eq_true.1 hall t hm)⟩)
    (by kernel_rfl)
theorem proved : Rows.FnExactClientOKCardSaid := card_holds
end Go.Proofs.YtlifdodphkimpaaDoor.fnExactClientOK
namespace Go.Proofs.YtlifdodphkimpaaDoor
/-- The row, under a short name, for the claim. -/
theorem fnExactClientOK_holds : Rows.FnExactClientOKCardSaid := fnExactClientOK.proved
#print axioms fnExactClientOK_holds
end Go.Proofs.YtlifdodphkimpaaDoor
