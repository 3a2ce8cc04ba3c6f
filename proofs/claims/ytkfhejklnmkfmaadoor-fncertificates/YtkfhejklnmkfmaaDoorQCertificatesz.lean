/- For every input the Go function FnCertificates returns true and leaves its arguments as they were. No conditions. -/
import Derived.Test.YtkfhejklnmkfmaaDoorRows
import Derived.Test.YtkfhejklnmkfmaaDoorCards
import Derived.Test.YtkfhejklnmkfmaaDoorTie
import Derived.Test.YtkfhejklnmkfmaaDoorQCertificatesg
import Derived.OpenVars
import Derived.MakeChecks
import Derived.LaidMore
import Derived.Lib.LaidTab
import Derived.SevenTiedAt
import Derived.ChangeVars
import Derived.WalkKit
import Derived.Stop.LaidErr
import Derived.ProofKit
import Derived.OpenShut
import Derived.ShutString
import Derived.ChangeOld
import Derived.Below
import Derived.SizedLaws
import Derived.WideShapes
set_option linter.unusedVariables false
set_option linter.unusedSimpArgs false
set_option linter.unusedSectionVars false
namespace Go.Proofs.YtkfhejklnmkfmaaDoor.fnCertificates
open Go.ChangeShapes Go.WideShapes Go.ChangeAt Go.RowKit Go.Proofs.YtkfhejklnmkfmaaDoor.A Go.Proofs.YtkfhejklnmkfmaaDoorW.PrintWords
open Go.ChangeMaps (open_string shut_string)
theorem own : ownKnob Tryd.prog.godebug = none := by kernel_rfl
theorem laidOut : laidOutB Tryd.prog = true := by kernel_rfl
theorem door_met (os : Os) (args : Array Value) : laidMetH Tryd.prog Rows.fnCertificatesRow.laid ((World.doorLaid Tryd.prog 29 os).forCall (fun _ _ => 0) ⟨#[], args, []⟩).memory :=
  laidMetH_of_parts3 (fuel := 8) (laidMet_of_run' 8 (by kernel_rfl) (by kernel_rfl)) (by kernel_rfl) (by kernel_rfl)
theorem gWords : Tryd.prog.globalNamed "loop.example/g00292/impl.roundWords" = some 0 := by kernel_rfl
theorem tWords : (Tryd.prog.globals[0]?).map (·.type) = some 88 := by kernel_rfl
theorem tabWords {W : World} (h : laidMetH Tryd.prog Rows.fnCertificatesRow.laid W) : Lib.TabIs Tryd.prog W "loop.example/g00292/impl.roundWords" .u32 roundKs := by
  rw [MakeChecks.laidMetH_plain _ _ _ (by kernel_rfl)] at h
  have h0 : laidMet Tryd.prog [("math/bits.deBruijn32tab", Rows.laid_math_bits_deBruijn32tab), ("math/bits.deBruijn64tab", Rows.laid_math_bits_deBruijn64tab), ("internal/strconv.uint64pow10", Rows.laid_internal_strconv_uint64pow10), ("loop.example/g00292/impl.roundWords", Rows.laid_loop_example_g00292_impl_roundWords)] W := h
  exact Lib.tabIs_of_head (n := 64) gWords tWords Tryd.underlying88 Tryd.underlying79 (by kernel_rfl) (by kernel_rfl) (show laidMet Tryd.prog (("loop.example/g00292/impl.roundWords", Lib.tabData .u32 roundKs) :: []) W from h0.tail.tail.tail)
theorem laid_w {W : World} (h : laidMetH Tryd.prog Rows.fnCertificatesRow.laid W) : Laid W := ⟨fun j hj => (tabWords h).cell gWords j hj⟩
theorem gPow : Tryd.prog.globalNamed "internal/strconv.uint64pow10" = some 1 := by kernel_rfl
theorem tPow : (Tryd.prog.globals[1]?).map (·.type) = some 100 := by kernel_rfl
theorem tabPow {W : World} (h : laidMetH Tryd.prog Rows.fnCertificatesRow.laid W) : Lib.TabIs Tryd.prog W "internal/strconv.uint64pow10" .u64 Lib.pow10Tab := by
  rw [MakeChecks.laidMetH_plain _ _ _ (by kernel_rfl)] at h
  have h0 : laidMet Tryd.prog [("math/bits.deBruijn32tab", Rows.laid_math_bits_deBruijn32tab), ("math/bits.deBruijn64tab", Rows.laid_math_bits_deBruijn64tab), ("internal/strconv.uint64pow10", Rows.laid_internal_strconv_uint64pow10), ("loop.example/g00292/impl.roundWords", Rows.laid_loop_example_g00292_impl_roundWords)] W := h
  exact Lib.tabIs_of_head (n := 20) gPow tPow Tryd.underlying100 Tryd.underlying94 (by kernel_rfl) (by kernel_rfl) (show laidMet Tryd.prog (("internal/strconv.uint64pow10", Lib.tabData .u64 Lib.pow10Tab) :: [("loop.example/g00292/impl.roundWords", Rows.laid_loop_example_g00292_impl_roundWords)]) W from h0.tail.tail)
theorem laid_t {W : World} (h : laidMetH Tryd.prog Rows.fnCertificatesRow.laid W) : LaidT W := ⟨tabPow h⟩
set_option maxRecDepth 100000 in
theorem lifted (os : Os) (started : os.Started) (H : Type) (enc : TypeId × Value → H) :
    ReturnsInHanded {} Tryd.checked os 3 .any (fun w args => (Rows.fnCertificatesSpec.pre enc Tryd.prog Tryd.f3 Rows.fnCertificatesRow.domain false w args ∧ laidMetH Tryd.prog Rows.fnCertificatesRow.laid w) ∧ sizedMet enc Tryd.prog Tryd.f3 (OpenSpec.ofChange Rows.fnCertificatesSpec) false w args) (Rows.fnCertificatesSpec.post enc Tryd.prog Tryd.f3 false true false false) := by
  refine returnsInHanded_of_change_and (C := Tryd.checked) (X := fun w _ => laidMetH Tryd.prog Rows.fnCertificatesRow.laid w) (fun _ _ _ hh h => h.of_heap hh) own started (by kernel_rfl) Tryd.func3
    (ChangeSpec.witness_shaped (enc := enc) (C := Tryd.checked) (os := os) (X := fun w _ => laidMetH Tryd.prog Rows.fnCertificatesRow.laid w) false (World.doorLaid Tryd.prog 29 os) #[.slice none 0 0, .slice none 0 0] 8 rfl (World.shaped_of_RefB (by kernel_rfl) (by kernel_rfl)) (by kernel_rfl) (by kernel_rfl) (by kernel_rfl) (door_met os _)) ?_
  intro W base args ds gs before hval0 hW hcnd hsz0 hL _
  have hval : ∀ (j : Nat) t v, Tryd.f3.params[j]? = some t → args[j]? = some v → Value.okWide Tryd.prog W .any base t v := hval0
  have hW' := hW
  obtain ⟨p, q, hA0, hV, rfl, hfz, hnd⟩ := hW
  have hA : DataW.TrodAll enc Tryd.prog W 0 (fun _ => true) true Tryd.f3.params.toList args.toList ds p := hA0
  rw [Tryd.params3] at hA hval
  obtain ⟨v0, vs0, d0, ds0, p0, q0, hargs, rfl, rfl, h0, r0⟩ := trodAll_cons hA
  obtain ⟨v1, vs1, d1, ds1, p1, q1, rfl, rfl, rfl, h1, r1⟩ := trodAll_cons r0
  obtain ⟨rfl, rfl, rfl⟩ := trodAll_nil r1
  obtain rfl : args = #[v0, v1] := by cases args; simp_all
  obtain ⟨g1, rfl⟩ : ∃ g1, gs = [g1] := by
    obtain ⟨_, _, _, _, d_, _, e_, _⟩ := trodVars_one hV
    exact ⟨d_, e_⟩
  have hLd := laid_w hL
  have hTd := laid_t hL
  have k0 := h0
  have lt0 : ∀ x ∈ p0, x.block < W.heap.size := by obtain ⟨m, hm⟩ := k0; exact DataW.trod_lt m _ _ _ hm
  obtain ⟨a0, len0, cap0, rfl⟩ := okWide_slice Tryd.underlying22 (hval 0 22 v0 rfl rfl)
  obtain ⟨y0, hK0, hG0⟩ := (fun (h : DataW.Trod enc Tryd.prog W 0 (fun _ => true) true 22 _ d0 p0) => h.elim (fun fuel hf => (opens_slice Tryd.underlying22 (by kernel_rfl) (opens_int Tryd.underlying5)) _ _ _ _ _ _ _ _ _ hf)) h0
  obtain ⟨A0, c0, hcs0, hle0, hC0⟩ := hK0
  simp only [Value.cells, List.cons.injEq, Value.slice.injEq, and_true] at hcs0
  obtain ⟨rfl, rfl, rfl⟩ := hcs0
  have k1 := h1
  have lt1 : ∀ x ∈ p1, x.block < W.heap.size := by obtain ⟨m, hm⟩ := k1; exact DataW.trod_lt m _ _ _ hm
  obtain ⟨a1, len1, cap1, rfl⟩ := okWide_slice Tryd.underlying22 (hval 1 22 v1 rfl rfl)
  obtain ⟨y1, hK1, hG1⟩ := (fun (h : DataW.Trod enc Tryd.prog W 0 (fun _ => true) true 22 _ d1 p1) => h.elim (fun fuel hf => (opens_slice Tryd.underlying22 (by kernel_rfl) (opens_int Tryd.underlying5)) _ _ _ _ _ _ _ _ _ hf)) h1
  obtain ⟨A1, c1, hcs1, hle1, hC1⟩ := hK1
  simp only [Value.cells, List.cons.injEq, Value.slice.injEq, and_true] at hcs1
  obtain ⟨rfl, rfl, rfl⟩ := hcs1
  clear hA0 hval0 hsz0
  obtain ⟨k_, hk_⟩ := lim_at (fun k_ => Zc.mono _ _ k_) (FnCertificates_pure y0 y1 hG0 hG1)
  refine (Zc.calls k_ _ _ y0 _ _ y1 true W hC0 hle0 hC1 hle1 hLd hTd hk_).mono fun e W' h_ => ?_
  obtain ⟨he, bel0⟩ := h_
  have bel : Below W.heap.size W W' := bel0
  subst he
  exact ⟨_, rfl, _, _, _, [], _, _, hW', trodAll_mk1 (shut_bool Tryd.underlying4 _), (trodAll_cons_mk (Below.trod laidOut (by kernel_rfl) (of_decide_eq_true (by kernel_rfl)) k0 bel lt0) (trodAll_cons_mk (Below.trod laidOut (by kernel_rfl) (of_decide_eq_true (by kernel_rfl)) k1 bel lt1) trodAll_mk0)), Below.trodVars laidOut bel (by kernel_rfl) hV, bel.frame _, fun h => by cases h⟩
theorem over : Rows.fnCertificatesRow.holds Tryd.pinned (OpenSpec.ofChange Rows.fnCertificatesSpec) :=
  OpenClaim.holds_of_wide 3 Tryd.f3 rfl rfl rfl rfl rfl rfl rfl ⟨rfl, rfl, rfl, rfl, rfl⟩ rfl rfl rfl rfl rfl (by kernel_rfl) Tryd.func3 (by kernel_rfl)
    (of_decide_eq_true (by kernel_rfl)) (by unfold Func.isWrapper; first | (rw [if_pos (by decide +kernel)]; kernel_rfl) | (rw [if_neg (by decide +kernel)]; exact ⟨rfl, rfl⟩))
    (fun os started H enc _ => lifted os started H enc)
theorem card_holds : Claim7.holds Tryd.pinned (.plain (OpenSpec.ofChange Rows.fnCertificatesSpec)) Rows.fnCertificatesCard :=
  Claim7.holds_tied_plain_at .later [] [.data, .data, .data, .data] true (true, "3486debf74982142296487fbcd1f5b40ec20b28a2ce91b8b1850e93207b52ab2") false
    over (fun _ h => by cases h) (by kernel_rfl) (fun _ h => by cases h) fnCertificates_row_tie rfl ⟨rfl, rfl⟩ (by kernel_rfl) rfl
    (fun f fn hf hfn => by
      obtain rfl : f = 3 := Option.some.inj ((show Tryd.prog.funcNamed "loop.example/g00292/laws.FnCertificates" = some 3 by kernel_rfl).symm.trans hf) |>.symm
      obtain rfl : fn = Tryd.f3 := (Option.some.inj (Tryd.func3.symm.trans hfn)).symm
      exact ⟨by kernel_rfl, fun j t ht => by
        rw [Tryd.params3] at ht
        have hm : t ∈ [22, 22] := by simpa using Array.mem_of_getElem? ht
        have hall : ([22, 22].all fun u => !Tryd.prog.wantsStandIn u) = true := by kernel_rfl
        exact (show Tryd.prog.wantsStandIn t = false by simpa using List.all_eq_true.1 hall t hm)⟩)
    (by kernel_rfl)
theorem proved : Rows.FnCertificatesCardSaid := card_holds
end Go.Proofs.YtkfhejklnmkfmaaDoor.fnCertificates
namespace Go.Proofs.YtkfhejklnmkfmaaDoor
/-- The row, under a short name, for the claim. -/
theorem fnCertificates_holds : Rows.FnCertificatesCardSaid := fnCertificates.proved
#print axioms fnCertificates_holds
end Go.Proofs.YtkfhejklnmkfmaaDoor
