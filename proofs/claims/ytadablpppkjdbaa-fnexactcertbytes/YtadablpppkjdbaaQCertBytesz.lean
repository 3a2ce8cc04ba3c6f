/- For every input the Go function FnExactCertBytes returns true and leaves its arguments as they were. No conditions. -/
import Derived.Test.YtadablpppkjdbaaRows
import Derived.Test.YtadablpppkjdbaaQCertBytese
import Derived.WalkKit
import Derived.ProofKit
import Derived.OpenShut
import Derived.ShutString
import Derived.ChangeOld
import Derived.Below
import Derived.SizedLaws
import Derived.WideShapes
set_option linter.unusedVariables false
set_option linter.unusedSimpArgs false
set_option linter.unusedSectionVars false
namespace Go.Proofs.Ytadablpppkjdbaa.fnExactCertBytes
open Go.ChangeShapes Go.WideShapes Go.ChangeAt Go.RowKit Go.Proofs.Ytadablpppkjdbaa.A Go.Proofs.YtadablpppkjdbaaW.PrintWords
open Go.ChangeMaps (open_string shut_string)
theorem own : ownKnob Try.prog.godebug = none := by kernel_rfl
theorem laidOut : laidOutB Try.prog = true := by kernel_rfl
set_option maxRecDepth 100000 in
theorem lifted (os : Os) (started : os.Started) (H : Type) (enc : TypeId × Value → H) :
    ReturnsInHanded {} Try.checked os 4 .any (Rows.fnExactCertBytesSpec.pre6 enc Try.prog Try.f4 Rows.fnExactCertBytesRow.domain false) (Rows.fnExactCertBytesSpec.post enc Try.prog Try.f4 false true false false) := by
  refine returnsInHanded_of_change_sized (C := Try.checked) own started (by kernel_rfl) Try.func4
    (ChangeSpec.witness6 (enc := enc) (C := Try.checked) false ⟨#[], #[.agg #[.string ByteArray.empty, .slice none 0 0]], []⟩ 8 (by kernel_rfl) (by kernel_rfl) (by kernel_rfl) (by kernel_rfl)) ?_
  intro W base args ds gs before hval0 hW hcnd hsz0 _
  have hval : ∀ (j : Nat) t v, Try.f4.params[j]? = some t → args[j]? = some v → Value.okWide Try.prog W .any base t v := hval0
  have hW' := hW
  obtain ⟨p, q, hA0, hV, rfl, hfz, hnd⟩ := hW
  have hA : DataW.TrodAll enc Try.prog W 0 (fun _ => true) true Try.f4.params.toList args.toList ds p := hA0
  rw [Try.params4] at hA hval
  obtain ⟨v0, vs0, d0, ds0, p0, q0, hargs, rfl, rfl, h0, r0⟩ := trodAll_cons hA
  obtain ⟨rfl, rfl, rfl⟩ := trodAll_nil r0
  obtain rfl : args = #[v0] := by cases args; simp_all
  obtain ⟨rfl, rfl⟩ := trodVars_none hV
  have k0 := h0
  have lt0 : ∀ x ∈ p0, x.block < W.heap.size := by obtain ⟨m, hm⟩ := k0; exact DataW.trod_lt m _ _ _ hm
  obtain ⟨cs0, rfl, _⟩ := okWide_struct Try.underlying34 (hval 0 34 v0 rfl rfl)
  obtain ⟨y0, hK0, hG0⟩ := (fun (h : DataW.Trod enc Try.prog W 0 (fun _ => true) true 34 _ d0 p0) => h.elim (fun fuel hf => opens34 _ _ _ _ _ _ _ _ _ hf)) h0
  have hO0 := k34_open hK0
  obtain ⟨A0_1, c0_1, hcs0, hle0_1, hC0_1⟩ := hO0
  obtain rfl : cs0 = #[.string y0.f0, .slice A0_1 y0.f1.length c0_1] := by cases cs0; simpa [Value.cells] using hcs0
  clear hA0 hval0 hsz0
  obtain ⟨k_, hk_⟩ := lim_at (fun k_ => laws_FnExactCertBytes.mono _ _ k_) (FnExactCertBytes_pure y0 hG0)
  refine (laws_FnExactCertBytes.calls k_ y0.f0 _ _ y0.f1 true W hC0_1 hle0_1 hk_).mono fun e W' h_ => ?_
  obtain ⟨he, bel0⟩ := h_
  have bel : Below W.heap.size W W' := bel0
  subst he
  exact ⟨_, rfl, _, _, _, [], _, [], hW', trodAll_mk1 (shut_bool Try.underlying4 _), (trodAll_cons_mk (Below.trod laidOut (by kernel_rfl) (of_decide_eq_true (by kernel_rfl)) k0 bel lt0) trodAll_mk0), rfl, bel.frame _, fun h => by cases h⟩
theorem over : Rows.fnExactCertBytesRow.holds Try.pinned (OpenSpec.ofChange Rows.fnExactCertBytesSpec) :=
  OpenClaim.holds_of_wide 4 Try.f4 rfl rfl rfl rfl rfl rfl rfl ⟨rfl, rfl, rfl, rfl, rfl⟩ rfl rfl rfl rfl rfl (by kernel_rfl) Try.func4 (by kernel_rfl)
    (of_decide_eq_true (by kernel_rfl)) (by unfold Func.isWrapper; first | (rw [if_pos (by decide +kernel)]; kernel_rfl) | (rw [if_neg (by decide +kernel)]; exact ⟨rfl, rfl⟩))
    (fun os started H enc _ => lifted os started H enc)
theorem proved : Rows.FnExactCertBytesSaid := over
end Go.Proofs.Ytadablpppkjdbaa.fnExactCertBytes
namespace Go.Proofs.Ytadablpppkjdbaa
/-- The row, under a short name, for the claim. -/
theorem fnExactCertBytes_holds : Rows.FnExactCertBytesSaid := fnExactCertBytes.proved
#print axioms fnExactCertBytes_holds
end Go.Proofs.Ytadablpppkjdbaa
