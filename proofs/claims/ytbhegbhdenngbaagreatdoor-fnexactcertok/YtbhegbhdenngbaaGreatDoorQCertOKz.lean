/- For every input the Go function FnExactCertOK returns true and leaves its arguments as they were. No conditions. -/
import Derived.Test.YtbhegbhdenngbaaGreatDoorRows
import Derived.Test.YtbhegbhdenngbaaGreatDoorCards
import Derived.Test.YtbhegbhdenngbaaGreatDoorTie
import Derived.Test.YtbhegbhdenngbaaGreatDoorQCertOKg
import Derived.OpenVars
import Derived.MakeChecks
import Derived.LaidMore
import Derived.Lib.LaidTab
import Derived.SevenTiedAt
import Derived.ChangeVars
import Derived.WalkKit
import Derived.ProofKit
import Derived.OpenShut
import Derived.ShutString
import Derived.ChangeOld
import Derived.Below
import Derived.SizedLaws
import Derived.WideShapes
set_option linter.unusedVariables false
set_option linter.unusedSimpArgs false
set_option linter.unusedSectionVars false
namespace Go.Proofs.YtbhegbhdenngbaaGreatDoor.fnExactCertOK
open Go.ChangeShapes Go.WideShapes Go.ChangeAt Go.RowKit Go.Proofs.YtbhegbhdenngbaaGreatDoor.A Go.Proofs.YtbhegbhdenngbaaGreatDoorW.PrintWords
open Go.ChangeMaps (open_string shut_string)
theorem own : ownKnob Tryz.prog.godebug = none := by kernel_rfl
theorem laidOut : laidOutB Tryz.prog = true := by kernel_rfl
theorem door_met (os : Os) (args : Array Value) : laidMetH Tryz.prog Rows.fnExactCertOKRow.laid ((World.doorLaid Tryz.prog 14 os).forCall (fun _ _ => 0) ⟨#[], args, []⟩).memory :=
  laidMetH_of_parts3 (fuel := 8) (laidMet_of_run' 8 (by kernel_rfl) (by kernel_rfl)) (by kernel_rfl) (by kernel_rfl)
theorem gWords : Tryz.prog.globalNamed "loop.example/g00292/impl.roundWords" = some 0 := by kernel_rfl
theorem tWords : (Tryz.prog.globals[0]?).map (·.type) = some 96 := by kernel_rfl
theorem tabWords {W : World} (h : laidMetH Tryz.prog Rows.fnExactCertOKRow.laid W) : Lib.TabIs Tryz.prog W "loop.example/g00292/impl.roundWords" .u32 roundKs := by
  rw [MakeChecks.laidMetH_plain _ _ _ (by kernel_rfl)] at h
  have h0 : laidMet Tryz.prog [("loop.example/g00292/impl.roundWords", Rows.laid_loop_example_g00292_impl_roundWords)] W := h
  exact Lib.tabIs_of_head (n := 64) gWords tWords Tryz.underlying96 Tryz.underlying69 (by kernel_rfl) (by kernel_rfl) (show laidMet Tryz.prog (("loop.example/g00292/impl.roundWords", Lib.tabData .u32 roundKs) :: []) W from h0)
theorem laid_w {W : World} (h : laidMetH Tryz.prog Rows.fnExactCertOKRow.laid W) : Laid W := ⟨fun j hj => (tabWords h).cell gWords j hj⟩
set_option maxRecDepth 100000 in
theorem lifted (os : Os) (started : os.Started) (H : Type) (enc : TypeId × Value → H) :
    ReturnsInHanded {} Tryz.checked os 3 .any (fun w args => (Rows.fnExactCertOKSpec.pre enc Tryz.prog Tryz.f3 Rows.fnExactCertOKRow.domain false w args ∧ laidMetH Tryz.prog Rows.fnExactCertOKRow.laid w) ∧ sizedMet enc Tryz.prog Tryz.f3 (OpenSpec.ofChange Rows.fnExactCertOKSpec) false w args) (Rows.fnExactCertOKSpec.post enc Tryz.prog Tryz.f3 false true false false) := by
  refine returnsInHanded_of_change_and (C := Tryz.checked) (X := fun w _ => laidMetH Tryz.prog Rows.fnExactCertOKRow.laid w) (fun _ _ _ hh h => h.of_heap hh) own started (by kernel_rfl) Tryz.func3
    (ChangeSpec.witness_shaped (enc := enc) (C := Tryz.checked) (os := os) (X := fun w _ => laidMetH Tryz.prog Rows.fnExactCertOKRow.laid w) false (World.doorLaid Tryz.prog 14 os) #[.int .i64 0, .agg #[.string ByteArray.empty, .slice none 0 0]] 8 rfl (World.shaped_of_RefB (by kernel_rfl) (by kernel_rfl)) (by kernel_rfl) (by kernel_rfl) (by kernel_rfl) (door_met os _)) ?_
  intro W base args ds gs before hval0 hW hcnd hsz0 hL _
  have hval : ∀ (j : Nat) t v, Tryz.f3.params[j]? = some t → args[j]? = some v → Value.okWide Tryz.prog W .any base t v := hval0
  have hW' := hW
  obtain ⟨p, q, hA0, hV, rfl, hfz, hnd⟩ := hW
  have hA : DataW.TrodAll enc Tryz.prog W 0 (fun _ => true) true Tryz.f3.params.toList args.toList ds p := hA0
  rw [Tryz.params3] at hA hval
  obtain ⟨v0, vs0, d0, ds0, p0, q0, hargs, rfl, rfl, h0, r0⟩ := trodAll_cons hA
  obtain ⟨v1, vs1, d1, ds1, p1, q1, rfl, rfl, rfl, h1, r1⟩ := trodAll_cons r0
  obtain ⟨rfl, rfl, rfl⟩ := trodAll_nil r1
  obtain rfl : args = #[v0, v1] := by cases args; simp_all
  obtain ⟨g1, rfl⟩ : ∃ g1, gs = [g1] := by
    obtain ⟨_, _, _, _, d_, _, e_, _⟩ := trodVars_one hV
    exact ⟨d_, e_⟩
  have hLd := laid_w hL
  obtain ⟨a0, rfl, rfl, rfl, w0⟩ := open_int Tryz.underlying3 (hval 0 3 v0 rfl rfl) h0
  have k1 := h1
  have lt1 : ∀ x ∈ p1, x.block < W.heap.size := by obtain ⟨m, hm⟩ := k1; exact DataW.trod_lt m _ _ _ hm
  obtain ⟨cs1, rfl, _⟩ := okWide_struct Tryz.underlying24 (hval 1 24 v1 rfl rfl)
  obtain ⟨y1, hK1, hG1⟩ := (fun (h : DataW.Trod enc Tryz.prog W 0 (fun _ => true) true 24 _ d1 p1) => h.elim (fun fuel hf => opens24 _ _ _ _ _ _ _ _ _ hf)) h1
  have hO1 := k24_open hK1
  obtain ⟨A1_1, c1_1, hcs1, hle1_1, hC1_1⟩ := hO1
  obtain rfl : cs1 = #[.string y1.f0, .slice A1_1 y1.f1.length c1_1] := by cases cs1; simpa [Value.cells] using hcs1
  clear hA0 hval0 hsz0
  obtain ⟨k_, hk_⟩ := lim_at (fun k_ => ZQ.mono _ _ _ k_) (FnExactCertOK_pure a0 y1 w0 hG1)
  refine (ZQ.calls k_ a0 y1.f0 _ _ y1.f1 true W hC1_1 hle1_1 hLd hk_).mono fun e W' h_ => ?_
  obtain ⟨he, bel0⟩ := h_
  have bel : Below W.heap.size W W' := bel0
  subst he
  exact ⟨_, rfl, _, _, _, [], _, _, hW', trodAll_mk1 (shut_bool Tryz.underlying4 _), (trodAll_cons_mk (shut_int Tryz.underlying3 w0) (trodAll_cons_mk (Below.trod laidOut (by kernel_rfl) (of_decide_eq_true (by kernel_rfl)) k1 bel lt1) trodAll_mk0)), Below.trodVars laidOut bel (by kernel_rfl) hV, bel.frame _, fun h => by cases h⟩
theorem over : Rows.fnExactCertOKRow.holds Tryz.pinned (OpenSpec.ofChange Rows.fnExactCertOKSpec) :=
  OpenClaim.holds_of_wide 3 Tryz.f3 rfl rfl rfl rfl rfl rfl rfl ⟨rfl, rfl, rfl, rfl, rfl⟩ rfl rfl rfl rfl rfl (by kernel_rfl) Tryz.func3 (by kernel_rfl)
    (of_decide_eq_true (by kernel_rfl)) (by unfold Func.isWrapper; first | (rw [if_pos (by decide +kernel)]; kernel_rfl) | (rw [if_neg (by decide +kernel)]; exact ⟨rfl, rfl⟩))
    (fun os started H enc _ => lifted os started H enc)
theorem card_holds : Claim7.holds Tryz.pinned (.plain (OpenSpec.ofChange Rows.fnExactCertOKSpec)) Rows.fnExactCertOKCard :=
  Claim7.holds_tied_plain_at .later [] [.data] true (true, "d01bcdc1a07f2feac1e02111580c2085ce1c564938db5b92ca33a7108453d307") false
    over (fun _ h => by cases h) (by kernel_rfl) (fun _ h => by cases h) fnExactCertOK_row_tie rfl ⟨rfl, rfl⟩ (by kernel_rfl) rfl
    (fun f fn hf hfn => by
      obtain rfl : f = 3 := Option.some.inj ((show Tryz.prog.funcNamed "loop.example/g00292/laws.FnExactCertOK" = some 3 by kernel_rfl).symm.trans hf) |>.symm
      obtain rfl : fn = Tryz.f3 := (Option.some.inj (Tryz.func3.symm.trans hfn)).symm
      exact ⟨by kernel_rfl, fun j t ht => by
        rw [Tryz.params3] at ht
        have hm : t ∈ [3, 24] := by simpa using Array.mem_of_getElem? ht
        have hall : ([3, 24].all fun u => !Tryz.prog.wantsStandIn u) = true := by kernel_rfl
        exact (show Tryz.prog.wantsStandIn t = false by simpa using List.all_eq_true.1 hall t hm)⟩)
    (by kernel_rfl)
theorem proved : Rows.FnExactCertOKCardSaid := card_holds
end Go.Proofs.YtbhegbhdenngbaaGreatDoor.fnExactCertOK
namespace Go.Proofs.YtbhegbhdenngbaaGreatDoor
/-- The row, under a short name, for the claim. -/
theorem fnExactCertOK_holds : Rows.FnExactCertOKCardSaid := fnExactCertOK.proved
#print axioms fnExactCertOK_holds
end Go.Proofs.YtbhegbhdenngbaaGreatDoor
