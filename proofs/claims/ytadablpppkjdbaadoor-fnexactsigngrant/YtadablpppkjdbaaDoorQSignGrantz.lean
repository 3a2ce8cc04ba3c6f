/- For every input the Go function FnExactSignGrant returns true and leaves its arguments as they were. No conditions. -/
import Derived.Test.YtadablpppkjdbaaDoorRows
import Derived.Test.YtadablpppkjdbaaDoorCards
import Derived.Test.YtadablpppkjdbaaDoorTie
import Derived.Test.YtadablpppkjdbaaDoorQSignGrantf
import Derived.OpenVars
import Derived.MakeChecks
import Derived.LaidMore
import Derived.Lib.LaidTab
import Derived.SevenTiedAt
import Derived.ChangeVars
import Derived.WalkKit
import Derived.Stop.LaidErr
import Derived.ProofKit
import Derived.OpenShut
import Derived.ShutString
import Derived.ChangeOld
import Derived.Below
import Derived.SizedLaws
import Derived.WideShapes
set_option linter.unusedVariables false
set_option linter.unusedSimpArgs false
set_option linter.unusedSectionVars false
namespace Go.Proofs.YtadablpppkjdbaaDoor.fnExactSignGrant
open Go.ChangeShapes Go.WideShapes Go.ChangeAt Go.RowKit Go.Proofs.YtadablpppkjdbaaDoor.B Go.Proofs.YtadablpppkjdbaaDoorW.PrintWords
open Go.ChangeMaps (open_string shut_string)
theorem own : ownKnob Tryd.prog.godebug = none := by kernel_rfl
theorem laidOut : laidOutB Tryd.prog = true := by kernel_rfl
theorem door_met (os : Os) (args : Array Value) : laidMetH Tryd.prog Rows.fnExactSignGrantRow.laid ((World.doorLaid Tryd.prog 29 os).forCall (fun _ _ => 0) ⟨#[], args, []⟩).memory :=
  laidMetH_of_parts3 (fuel := 8) (laidMet_of_run' 8 (by kernel_rfl) (by kernel_rfl)) (by kernel_rfl) (by kernel_rfl)
theorem gWords : Tryd.prog.globalNamed "loop.example/g00292/impl.roundWords" = some 0 := by kernel_rfl
theorem tWords : (Tryd.prog.globals[0]?).map (·.type) = some 186 := by kernel_rfl
theorem tabWords {W : World} (h : laidMetH Tryd.prog Rows.fnExactSignGrantRow.laid W) : Lib.TabIs Tryd.prog W "loop.example/g00292/impl.roundWords" .u32 roundKs := by
  rw [MakeChecks.laidMetH_plain _ _ _ (by kernel_rfl)] at h
  have h0 : laidMet Tryd.prog [("math/bits.deBruijn32tab", Rows.laid_math_bits_deBruijn32tab), ("math/bits.deBruijn64tab", Rows.laid_math_bits_deBruijn64tab), ("internal/strconv.uint64pow10", Rows.laid_internal_strconv_uint64pow10), ("loop.example/g00292/impl.roundWords", Rows.laid_loop_example_g00292_impl_roundWords)] W := h
  exact Lib.tabIs_of_head (n := 64) gWords tWords Tryd.underlying186 Tryd.underlying153 (by kernel_rfl) (by kernel_rfl) (show laidMet Tryd.prog (("loop.example/g00292/impl.roundWords", Lib.tabData .u32 roundKs) :: []) W from h0.tail.tail.tail)
theorem laid_w {W : World} (h : laidMetH Tryd.prog Rows.fnExactSignGrantRow.laid W) : Laid W := ⟨fun j hj => (tabWords h).cell gWords j hj⟩
theorem gPow : Tryd.prog.globalNamed "internal/strconv.uint64pow10" = some 2 := by kernel_rfl
theorem tPow : (Tryd.prog.globals[2]?).map (·.type) = some 218 := by kernel_rfl
theorem tabPow {W : World} (h : laidMetH Tryd.prog Rows.fnExactSignGrantRow.laid W) : Lib.TabIs Tryd.prog W "internal/strconv.uint64pow10" .u64 Lib.pow10Tab := by
  rw [MakeChecks.laidMetH_plain _ _ _ (by kernel_rfl)] at h
  have h0 : laidMet Tryd.prog [("math/bits.deBruijn32tab", Rows.laid_math_bits_deBruijn32tab), ("math/bits.deBruijn64tab", Rows.laid_math_bits_deBruijn64tab), ("internal/strconv.uint64pow10", Rows.laid_internal_strconv_uint64pow10), ("loop.example/g00292/impl.roundWords", Rows.laid_loop_example_g00292_impl_roundWords)] W := h
  exact Lib.tabIs_of_head (n := 20) gPow tPow Tryd.underlying218 Tryd.underlying208 (by kernel_rfl) (by kernel_rfl) (show laidMet Tryd.prog (("internal/strconv.uint64pow10", Lib.tabData .u64 Lib.pow10Tab) :: [("loop.example/g00292/impl.roundWords", Rows.laid_loop_example_g00292_impl_roundWords)]) W from h0.tail.tail)
theorem laid_t {W : World} (h : laidMetH Tryd.prog Rows.fnExactSignGrantRow.laid W) : LaidT W := ⟨tabPow h⟩
set_option maxRecDepth 100000 in
theorem lifted (os : Os) (started : os.Started) (H : Type) (enc : TypeId × Value → H) :
    ReturnsInHanded {} Tryd.checked os 7 .any (fun w args => (Rows.fnExactSignGrantSpec.pre enc Tryd.prog Tryd.f7 Rows.fnExactSignGrantRow.domain false w args ∧ laidMetH Tryd.prog Rows.fnExactSignGrantRow.laid w) ∧ sizedMet enc Tryd.prog Tryd.f7 (OpenSpec.ofChange Rows.fnExactSignGrantSpec) false w args) (Rows.fnExactSignGrantSpec.post enc Tryd.prog Tryd.f7 false true false false) := by
  refine returnsInHanded_of_change_and (C := Tryd.checked) (X := fun w _ => laidMetH Tryd.prog Rows.fnExactSignGrantRow.laid w) (fun _ _ _ hh h => h.of_heap hh) own started (by kernel_rfl) Tryd.func7
    (ChangeSpec.witness_shaped (enc := enc) (C := Tryd.checked) (os := os) (X := fun w _ => laidMetH Tryd.prog Rows.fnExactSignGrantRow.laid w) false (World.doorLaid Tryd.prog 29 os) #[.int .i64 0, .int .i64 0, .agg #[.string ByteArray.empty, .int .i64 0, .int .i64 0, .int .i64 0]] 8 rfl (World.shaped_of_RefB (by kernel_rfl) (by kernel_rfl)) (by kernel_rfl) (by kernel_rfl) (by kernel_rfl) (door_met os _)) ?_
  intro W base args ds gs before hval0 hW hcnd hsz0 hL _
  have hval : ∀ (j : Nat) t v, Tryd.f7.params[j]? = some t → args[j]? = some v → Value.okWide Tryd.prog W .any base t v := hval0
  have hW' := hW
  obtain ⟨p, q, hA0, hV, rfl, hfz, hnd⟩ := hW
  have hA : DataW.TrodAll enc Tryd.prog W 0 (fun _ => true) true Tryd.f7.params.toList args.toList ds p := hA0
  rw [Tryd.params7] at hA hval
  obtain ⟨v0, vs0, d0, ds0, p0, q0, hargs, rfl, rfl, h0, r0⟩ := trodAll_cons hA
  obtain ⟨v1, vs1, d1, ds1, p1, q1, rfl, rfl, rfl, h1, r1⟩ := trodAll_cons r0
  obtain ⟨v2, vs2, d2, ds2, p2, q2, rfl, rfl, rfl, h2, r2⟩ := trodAll_cons r1
  obtain ⟨rfl, rfl, rfl⟩ := trodAll_nil r2
  obtain rfl : args = #[v0, v1, v2] := by cases args; simp_all
  obtain ⟨g1, rfl⟩ : ∃ g1, gs = [g1] := by
    obtain ⟨_, _, _, _, d_, _, e_, _⟩ := trodVars_one hV
    exact ⟨d_, e_⟩
  have hLd := laid_w hL
  have hTd := laid_t hL
  obtain ⟨a0, rfl, rfl, rfl, w0⟩ := open_int Tryd.underlying3 (hval 0 3 v0 rfl rfl) h0
  obtain ⟨a1, rfl, rfl, rfl, w1⟩ := open_int Tryd.underlying3 (hval 1 3 v1 rfl rfl) h1
  have k2 := h2
  have lt2 : ∀ x ∈ p2, x.block < W.heap.size := by obtain ⟨m, hm⟩ := k2; exact DataW.trod_lt m _ _ _ hm
  obtain ⟨cs2, rfl, _⟩ := okWide_struct Tryd.underlying53 (hval 2 53 v2 rfl rfl)
  obtain ⟨y2, hK2, hG2⟩ := (fun (h : DataW.Trod enc Tryd.prog W 0 (fun _ => true) true 53 _ d2 p2) => h.elim (fun fuel hf => opens53 _ _ _ _ _ _ _ _ _ hf)) h2
  have hcs2 := k53_open hK2
  obtain rfl : cs2 = #[.string y2.f0, .int .i64 y2.f1, .int .i64 y2.f2, .int .i64 y2.f3] := by cases cs2; simpa [Value.cells] using hcs2
  clear hA0 hval0 hsz0
  obtain ⟨k_, hk_⟩ := lim_at (fun k_ => laws_FnExactSignGrant.mono _ _ _ _ _ _ k_) (FnExactSignGrant_pure a0 a1 y2 w0 w1 hG2)
  refine (laws_FnExactSignGrant.calls k_ a0 a1 y2.f0 y2.f1 y2.f2 y2.f3 true W  hLd hTd hk_).mono fun e W' h_ => ?_
  obtain ⟨he, bel0⟩ := h_
  have bel : Below W.heap.size W W' := bel0
  subst he
  exact ⟨_, rfl, _, _, _, [], _, _, hW', trodAll_mk1 (shut_bool Tryd.underlying4 _), (trodAll_cons_mk (shut_int Tryd.underlying3 w0) (trodAll_cons_mk (shut_int Tryd.underlying3 w1) (trodAll_cons_mk (Below.trod laidOut (by kernel_rfl) (of_decide_eq_true (by kernel_rfl)) k2 bel lt2) trodAll_mk0))), Below.trodVars laidOut bel (by kernel_rfl) hV, bel.frame _, fun h => by cases h⟩
theorem over : Rows.fnExactSignGrantRow.holds Tryd.pinned (OpenSpec.ofChange Rows.fnExactSignGrantSpec) :=
  OpenClaim.holds_of_wide 7 Tryd.f7 rfl rfl rfl rfl rfl rfl rfl ⟨rfl, rfl, rfl, rfl, rfl⟩ rfl rfl rfl rfl rfl (by kernel_rfl) Tryd.func7 (by kernel_rfl)
    (of_decide_eq_true (by kernel_rfl)) (by unfold Func.isWrapper; first | (rw [if_pos (by decide +kernel)]; kernel_rfl) | (rw [if_neg (by decide +kernel)]; exact ⟨rfl, rfl⟩))
    (fun os started H enc _ => lifted os started H enc)
theorem card_holds : Claim7.holds Tryd.pinned (.plain (OpenSpec.ofChange Rows.fnExactSignGrantSpec)) Rows.fnExactSignGrantCard :=
  Claim7.holds_tied_plain_at .later [] [.data, .data, .data, .data] true (true, "4617db44448b6b37d9b0ca62c299d7bff04138b72a01d70d72159aade5babf36") false
    over (fun _ h => by cases h) (by kernel_rfl) (fun _ h => by cases h) fnExactSignGrant_row_tie rfl ⟨rfl, rfl⟩ (by kernel_rfl) rfl
    (fun f fn hf hfn => by
      obtain rfl : f = 7 := Option.some.inj ((show Tryd.prog.funcNamed "loop.example/g00292/laws.FnExactSignGrant" = some 7 by kernel_rfl).symm.trans hf) |>.symm
      obtain rfl : fn = Tryd.f7 := (Option.some.inj (Tryd.func7.symm.trans hfn)).symm
      exact ⟨by kernel_rfl, fun j t ht => by
        rw [Tryd.params7] at ht
        have hm : t ∈ [3, 3, 53] := by simpa using Array.mem_of_getElem? ht
        have hall : ([3, 3, 53].all fun u => !Tryd.prog.wantsStandIn u) = true := by kernel_rfl
        exact (show Tryd.prog.wantsStandIn t = false by simpa using List.all_eq_true.1 hall t hm)⟩)
    (by kernel_rfl)
theorem proved : Rows.FnExactSignGrantCardSaid := card_holds
end Go.Proofs.YtadablpppkjdbaaDoor.fnExactSignGrant
namespace Go.Proofs.YtadablpppkjdbaaDoor
/-- The row, under a short name, for the claim. -/
theorem fnExactSignGrant_holds : Rows.FnExactSignGrantCardSaid := fnExactSignGrant.proved
#print axioms fnExactSignGrant_holds
end Go.Proofs.YtadablpppkjdbaaDoor
