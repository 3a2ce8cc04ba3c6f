/- A part of the proof that FnExactReadCert returns true at every input: plain functions, contracts and lemmas. No conditions. -/
import Derived.Test.YtadablpppkjdbaaQReadCertc
set_option linter.unusedVariables false
set_option linter.unusedSimpArgs false
set_option linter.unusedSectionVars false
section
namespace Go.Proofs.Ytadablpppkjdbaa.A
open Go.RowKit Go.Proofs.YtadablpppkjdbaaW.PrintWords Go.Proofs.YtadablpppkjdbaaW.PrintLast Go.Proofs.YtadablpppkjdbaaW.PrintMore
attribute [local go_sem] max2_int min2_int max_two min_two max_three min_three max_four min_four
set_option maxHeartbeats 8000000 in
set_option maxRecDepth 100000 in
theorem laws_markMessageS.calls (k : Nat) (P0_ : Nat → Prop) (u9000_ : Value) (l0 : List (S63)) (a1 : Int) (r1 : Int) (r2 : List (S63)) (w0 w : World) (hB : Below w0.heap.size w0 w) (ho0 : Kd.R k63 63 w w0.heap.size P0_ u9000_ l0) (h : laws_markMessageS.f k l0 a1 = some (r1,r2)) :
  Calls Try.prog 43 #[u9000_,.int .i64 a1] w fun e w' => e = .returned (.int .i64 r1) ∧ Kd.R k63 63 w' w0.heap.size (fun k_ => (P0_ k_ ∨ w.heap.size ≤ k_)) u9000_ r2 ∧ Below w0.heap.size w0 w' ∧ Kept w w' (fun k_ => P0_ k_) := by
 have HO0 := am_ (show Kd.R k63 63 w w0.heap.size (fun k_ => (P0_ k_ ∨ w.heap.size ≤ k_)) u9000_ l0 from Kd.R_mono ho0 (fun k_ hk => (.inl hk)))
 have HK := am_ (Kept.refl w (fun k_ => P0_ k_))
 have HW0 := am_ hB.size
 have HB := am_ hB
 clear hB
 have H : (laws_markMessageS.l0 k l0 a1 0) = some (r1,r2) := h
 clear h
 have H' := am_ H
 clear H
 go_enter Try.func43,Try.ntmps43
 go_wp2
 go_loopg [1,5] k (fun kq v1 v5 w' => ∃ (x0_1 : List (S63)) (x1_1 : Int) (x5_1 : Int),v1 = .int .i64 x1_1 ∧ v5 = .int .i64 x5_1 ∧ Aside0 (laws_markMessageS.l0 kq x0_1 x1_1 x5_1 = some (r1,r2)) ∧ Aside0 (kq ≤ k) ∧ Aside0 (Kd.R k63 63 w' w0.heap.size (fun k_ => (P0_ k_ ∨ w.heap.size ≤ k_)) u9000_ x0_1) ∧ Aside0 (Kept w w' (fun k_ => P0_ k_)) ∧ Aside0 (Below w0.heap.size w0 w'))
 case atStart => exact ⟨(l0),(a1),(0),(by first | rfl | (simp;done) | (simp [*];done)),(by first | rfl | (simp;done) | (simp [*];done)),H',⟨Nat.le_refl _⟩,⟨zr HO0⟩,⟨by repeat (first | (with_reducible first | exact HK.out | apply Kept.alloc | apply Kept.drewN | apply Kept.drew) | exact HK.out)⟩,⟨zl_ HB⟩⟩
 case round =>
  clear H'
  try clear p2
  obtain ⟨x0_1,x1_1,x5_1,rfl,rfl,HA,HK1,HO_0,HK,HB⟩ := hrel
  cases gk with
  | zero => exact absurd HA.out (by simp [laws_markMessageS.l0])
  | succ k1 =>
   have H := HA.out
   clear HA
   simp only [laws_markMessageS.l0] at H
   by_cases c3 : x5_1 < (x0_1.length : Int)
   ·rw [if_pos c3] at H
    have c3b0 : decide (x5_1 < (x0_1.length : Int)) = true := decide_eq_true c3
    clear c3
    by_cases c4 : 0 ≤ x5_1
    ·rw [if_pos c4] at H
     have c4b0 : decide (0 ≤ x5_1) = true := decide_eq_true c4
     clear c4
     obtain ⟨y345,hy345⟩ : ∃ y_ : List (S63),y_ = (x0_1.set (x5_1 : Int).toNat (⟨x1_1,(rd_T63 x0_1 x5_1).f1,(rd_T63 x0_1 x5_1).f2,(rd_T63 x0_1 x5_1).f3,(rd_T63 x0_1 x5_1).f4,(rd_T63 x0_1 x5_1).f5,(rd_T63 x0_1 x5_1).f6⟩ : S63)) := ⟨_,rfl⟩
     replace H : ((some (y345.set (x5_1 : Int).toNat (⟨(rd_T63 y345 x5_1).f0,wrap64 (x1_1 + 1),(rd_T63 y345 x5_1).f2,(rd_T63 y345 x5_1).f3,(rd_T63 y345 x5_1).f4,(rd_T63 y345 x5_1).f5,(rd_T63 y345 x5_1).f6⟩ : S63) : List (S63))).bind fun y346 => ((some (y346.set (x5_1 : Int).toNat (⟨(rd_T63 y346 x5_1).f0,(rd_T63 y346 x5_1).f1,wrap64 ((wrap64 (x1_1 + 1)) + 1),(rd_T63 y346 x5_1).f3,(rd_T63 y346 x5_1).f4,(rd_T63 y346 x5_1).f5,(rd_T63 y346 x5_1).f6⟩ : S63) : List (S63))).bind fun y347 => ((some (y347.set (x5_1 : Int).toNat (⟨(rd_T63 y347 x5_1).f0,(rd_T63 y347 x5_1).f1,(rd_T63 y347 x5_1).f2,wrap64 ((wrap64 ((wrap64 (x1_1 + 1)) + 1)) + 1),(rd_T63 y347 x5_1).f4,(rd_T63 y347 x5_1).f5,(rd_T63 y347 x5_1).f6⟩ : S63) : List (S63))).bind fun y348 => ((laws_markText.f k1 (wrap64 ((wrap64 ((wrap64 ((wrap64 (x1_1 + 1)) + 1)) + 1)) + 1))).bind fun t349 => ((some (y348.set (x5_1 : Int).toNat (⟨(rd_T63 y348 x5_1).f0,(rd_T63 y348 x5_1).f1,(rd_T63 y348 x5_1).f2,(rd_T63 y348 x5_1).f3,t349,(rd_T63 y348 x5_1).f5,(rd_T63 y348 x5_1).f6⟩ : S63) : List (S63))).bind fun y350 => ((laws_markText.f k1 (wrap64 ((wrap64 ((wrap64 ((wrap64 ((wrap64 (x1_1 + 1)) + 1)) + 1)) + 1)) + 1))).bind fun t351 => ((some (y350.set (x5_1 : Int).toNat (⟨(rd_T63 y350 x5_1).f0,(rd_T63 y350 x5_1).f1,(rd_T63 y350 x5_1).f2,(rd_T63 y350 x5_1).f3,(rd_T63 y350 x5_1).f4,t351,(rd_T63 y350 x5_1).f6⟩ : S63) : List (S63))).bind fun y352 => ((laws_markText.f k1 (wrap64 ((wrap64 ((wrap64 ((wrap64 ((wrap64 ((wrap64 (x1_1 + 1)) + 1)) + 1)) + 1)) + 1)) + 1))).bind fun t353 => (laws_markMessageS.l0 k1 (y352.set (x5_1 : Int).toNat (⟨(rd_T63 y352 x5_1).f0,(rd_T63 y352 x5_1).f1,(rd_T63 y352 x5_1).f2,(rd_T63 y352 x5_1).f3,(rd_T63 y352 x5_1).f4,(rd_T63 y352 x5_1).f5,t353⟩ : S63)) (wrap64 ((wrap64 ((wrap64 ((wrap64 ((wrap64 ((wrap64 ((wrap64 (x1_1 + 1)) + 1)) + 1)) + 1)) + 1)) + 1)) + 1)) (wrap64 (x5_1 + 1))))))))))) = some (r1,r2) := by first | (rw [hy345];with_reducible exact H) | (have H2_ := (Option.bind_some _ _).symm.trans H;rw [hy345];with_reducible exact H2_) | (have H2_ := (Option.bind_some _ _).symm.trans H;with_reducible exact H2_) | with_reducible exact H | (rw [hy345];exact H) | exact H
     have Ny345 := am_ hy345
     clear hy345
     obtain ⟨y346,hy346⟩ : ∃ y_ : List (S63),y_ = (y345.set (x5_1 : Int).toNat (⟨(rd_T63 y345 x5_1).f0,wrap64 (x1_1 + 1),(rd_T63 y345 x5_1).f2,(rd_T63 y345 x5_1).f3,(rd_T63 y345 x5_1).f4,(rd_T63 y345 x5_1).f5,(rd_T63 y345 x5_1).f6⟩ : S63)) := ⟨_,rfl⟩
     replace H : ((some (y346.set (x5_1 : Int).toNat (⟨(rd_T63 y346 x5_1).f0,(rd_T63 y346 x5_1).f1,wrap64 ((wrap64 (x1_1 + 1)) + 1),(rd_T63 y346 x5_1).f3,(rd_T63 y346 x5_1).f4,(rd_T63 y346 x5_1).f5,(rd_T63 y346 x5_1).f6⟩ : S63) : List (S63))).bind fun y347 => ((some (y347.set (x5_1 : Int).toNat (⟨(rd_T63 y347 x5_1).f0,(rd_T63 y347 x5_1).f1,(rd_T63 y347 x5_1).f2,wrap64 ((wrap64 ((wrap64 (x1_1 + 1)) + 1)) + 1),(rd_T63 y347 x5_1).f4,(rd_T63 y347 x5_1).f5,(rd_T63 y347 x5_1).f6⟩ : S63) : List (S63))).bind fun y348 => ((laws_markText.f k1 (wrap64 ((wrap64 ((wrap64 ((wrap64 (x1_1 + 1)) + 1)) + 1)) + 1))).bind fun t349 => ((some (y348.set (x5_1 : Int).toNat (⟨(rd_T63 y348 x5_1).f0,(rd_T63 y348 x5_1).f1,(rd_T63 y348 x5_1).f2,(rd_T63 y348 x5_1).f3,t349,(rd_T63 y348 x5_1).f5,(rd_T63 y348 x5_1).f6⟩ : S63) : List (S63))).bind fun y350 => ((laws_markText.f k1 (wrap64 ((wrap64 ((wrap64 ((wrap64 ((wrap64 (x1_1 + 1)) + 1)) + 1)) + 1)) + 1))).bind fun t351 => ((some (y350.set (x5_1 : Int).toNat (⟨(rd_T63 y350 x5_1).f0,(rd_T63 y350 x5_1).f1,(rd_T63 y350 x5_1).f2,(rd_T63 y350 x5_1).f3,(rd_T63 y350 x5_1).f4,t351,(rd_T63 y350 x5_1).f6⟩ : S63) : List (S63))).bind fun y352 => ((laws_markText.f k1 (wrap64 ((wrap64 ((wrap64 ((wrap64 ((wrap64 ((wrap64 (x1_1 + 1)) + 1)) + 1)) + 1)) + 1)) + 1))).bind fun t353 => (laws_markMessageS.l0 k1 (y352.set (x5_1 : Int).toNat (⟨(rd_T63 y352 x5_1).f0,(rd_T63 y352 x5_1).f1,(rd_T63 y352 x5_1).f2,(rd_T63 y352 x5_1).f3,(rd_T63 y352 x5_1).f4,(rd_T63 y352 x5_1).f5,t353⟩ : S63)) (wrap64 ((wrap64 ((wrap64 ((wrap64 ((wrap64 ((wrap64 ((wrap64 (x1_1 + 1)) + 1)) + 1)) + 1)) + 1)) + 1)) + 1)) (wrap64 (x5_1 + 1)))))))))) = some (r1,r2) := by first | (rw [hy346];with_reducible exact H) | (have H2_ := (Option.bind_some _ _).symm.trans H;rw [hy346];with_reducible exact H2_) | (have H2_ := (Option.bind_some _ _).symm.trans H;with_reducible exact H2_) | with_reducible exact H | (rw [hy346];exact H) | exact H
     have Ny346 := am_ hy346
     clear hy346
     obtain ⟨y347,hy347⟩ : ∃ y_ : List (S63),y_ = (y346.set (x5_1 : Int).toNat (⟨(rd_T63 y346 x5_1).f0,(rd_T63 y346 x5_1).f1,wrap64 ((wrap64 (x1_1 + 1)) + 1),(rd_T63 y346 x5_1).f3,(rd_T63 y346 x5_1).f4,(rd_T63 y346 x5_1).f5,(rd_T63 y346 x5_1).f6⟩ : S63)) := ⟨_,rfl⟩
     replace H : ((some (y347.set (x5_1 : Int).toNat (⟨(rd_T63 y347 x5_1).f0,(rd_T63 y347 x5_1).f1,(rd_T63 y347 x5_1).f2,wrap64 ((wrap64 ((wrap64 (x1_1 + 1)) + 1)) + 1),(rd_T63 y347 x5_1).f4,(rd_T63 y347 x5_1).f5,(rd_T63 y347 x5_1).f6⟩ : S63) : List (S63))).bind fun y348 => ((laws_markText.f k1 (wrap64 ((wrap64 ((wrap64 ((wrap64 (x1_1 + 1)) + 1)) + 1)) + 1))).bind fun t349 => ((some (y348.set (x5_1 : Int).toNat (⟨(rd_T63 y348 x5_1).f0,(rd_T63 y348 x5_1).f1,(rd_T63 y348 x5_1).f2,(rd_T63 y348 x5_1).f3,t349,(rd_T63 y348 x5_1).f5,(rd_T63 y348 x5_1).f6⟩ : S63) : List (S63))).bind fun y350 => ((laws_markText.f k1 (wrap64 ((wrap64 ((wrap64 ((wrap64 ((wrap64 (x1_1 + 1)) + 1)) + 1)) + 1)) + 1))).bind fun t351 => ((some (y350.set (x5_1 : Int).toNat (⟨(rd_T63 y350 x5_1).f0,(rd_T63 y350 x5_1).f1,(rd_T63 y350 x5_1).f2,(rd_T63 y350 x5_1).f3,(rd_T63 y350 x5_1).f4,t351,(rd_T63 y350 x5_1).f6⟩ : S63) : List (S63))).bind fun y352 => ((laws_markText.f k1 (wrap64 ((wrap64 ((wrap64 ((wrap64 ((wrap64 ((wrap64 (x1_1 + 1)) + 1)) + 1)) + 1)) + 1)) + 1))).bind fun t353 => (laws_markMessageS.l0 k1 (y352.set (x5_1 : Int).toNat (⟨(rd_T63 y352 x5_1).f0,(rd_T63 y352 x5_1).f1,(rd_T63 y352 x5_1).f2,(rd_T63 y352 x5_1).f3,(rd_T63 y352 x5_1).f4,(rd_T63 y352 x5_1).f5,t353⟩ : S63)) (wrap64 ((wrap64 ((wrap64 ((wrap64 ((wrap64 ((wrap64 ((wrap64 (x1_1 + 1)) + 1)) + 1)) + 1)) + 1)) + 1)) + 1)) (wrap64 (x5_1 + 1))))))))) = some (r1,r2) := by first | (rw [hy347];with_reducible exact H) | (have H2_ := (Option.bind_some _ _).symm.trans H;rw [hy347];with_reducible exact H2_) | (have H2_ := (Option.bind_some _ _).symm.trans H;with_reducible exact H2_) | with_reducible exact H | (rw [hy347];exact H) | exact H
     have Ny347 := am_ hy347
     clear hy347
     obtain ⟨y348,hy348⟩ : ∃ y_ : List (S63),y_ = (y347.set (x5_1 : Int).toNat (⟨(rd_T63 y347 x5_1).f0,(rd_T63 y347 x5_1).f1,(rd_T63 y347 x5_1).f2,wrap64 ((wrap64 ((wrap64 (x1_1 + 1)) + 1)) + 1),(rd_T63 y347 x5_1).f4,(rd_T63 y347 x5_1).f5,(rd_T63 y347 x5_1).f6⟩ : S63)) := ⟨_,rfl⟩
     replace H : ((laws_markText.f k1 (wrap64 ((wrap64 ((wrap64 ((wrap64 (x1_1 + 1)) + 1)) + 1)) + 1))).bind fun t349 => ((some (y348.set (x5_1 : Int).toNat (⟨(rd_T63 y348 x5_1).f0,(rd_T63 y348 x5_1).f1,(rd_T63 y348 x5_1).f2,(rd_T63 y348 x5_1).f3,t349,(rd_T63 y348 x5_1).f5,(rd_T63 y348 x5_1).f6⟩ : S63) : List (S63))).bind fun y350 => ((laws_markText.f k1 (wrap64 ((wrap64 ((wrap64 ((wrap64 ((wrap64 (x1_1 + 1)) + 1)) + 1)) + 1)) + 1))).bind fun t351 => ((some (y350.set (x5_1 : Int).toNat (⟨(rd_T63 y350 x5_1).f0,(rd_T63 y350 x5_1).f1,(rd_T63 y350 x5_1).f2,(rd_T63 y350 x5_1).f3,(rd_T63 y350 x5_1).f4,t351,(rd_T63 y350 x5_1).f6⟩ : S63) : List (S63))).bind fun y352 => ((laws_markText.f k1 (wrap64 ((wrap64 ((wrap64 ((wrap64 ((wrap64 ((wrap64 (x1_1 + 1)) + 1)) + 1)) + 1)) + 1)) + 1))).bind fun t353 => (laws_markMessageS.l0 k1 (y352.set (x5_1 : Int).toNat (⟨(rd_T63 y352 x5_1).f0,(rd_T63 y352 x5_1).f1,(rd_T63 y352 x5_1).f2,(rd_T63 y352 x5_1).f3,(rd_T63 y352 x5_1).f4,(rd_T63 y352 x5_1).f5,t353⟩ : S63)) (wrap64 ((wrap64 ((wrap64 ((wrap64 ((wrap64 ((wrap64 ((wrap64 (x1_1 + 1)) + 1)) + 1)) + 1)) + 1)) + 1)) + 1)) (wrap64 (x5_1 + 1)))))))) = some (r1,r2) := by first | (rw [hy348];with_reducible exact H) | (have H2_ := (Option.bind_some _ _).symm.trans H;rw [hy348];with_reducible exact H2_) | (have H2_ := (Option.bind_some _ _).symm.trans H;with_reducible exact H2_) | with_reducible exact H | (rw [hy348];exact H) | exact H
     have Ny348 := am_ hy348
     clear hy348
     replace H := Option.bind_eq_some_iff.mp H
     obtain ⟨t349,A90,H⟩ := H
     try dsimp only at H
     have A9 := am_ A90
     clear A90
     obtain ⟨y350,hy350⟩ : ∃ y_ : List (S63),y_ = (y348.set (x5_1 : Int).toNat (⟨(rd_T63 y348 x5_1).f0,(rd_T63 y348 x5_1).f1,(rd_T63 y348 x5_1).f2,(rd_T63 y348 x5_1).f3,t349,(rd_T63 y348 x5_1).f5,(rd_T63 y348 x5_1).f6⟩ : S63)) := ⟨_,rfl⟩
     replace H : ((laws_markText.f k1 (wrap64 ((wrap64 ((wrap64 ((wrap64 ((wrap64 (x1_1 + 1)) + 1)) + 1)) + 1)) + 1))).bind fun t351 => ((some (y350.set (x5_1 : Int).toNat (⟨(rd_T63 y350 x5_1).f0,(rd_T63 y350 x5_1).f1,(rd_T63 y350 x5_1).f2,(rd_T63 y350 x5_1).f3,(rd_T63 y350 x5_1).f4,t351,(rd_T63 y350 x5_1).f6⟩ : S63) : List (S63))).bind fun y352 => ((laws_markText.f k1 (wrap64 ((wrap64 ((wrap64 ((wrap64 ((wrap64 ((wrap64 (x1_1 + 1)) + 1)) + 1)) + 1)) + 1)) + 1))).bind fun t353 => (laws_markMessageS.l0 k1 (y352.set (x5_1 : Int).toNat (⟨(rd_T63 y352 x5_1).f0,(rd_T63 y352 x5_1).f1,(rd_T63 y352 x5_1).f2,(rd_T63 y352 x5_1).f3,(rd_T63 y352 x5_1).f4,(rd_T63 y352 x5_1).f5,t353⟩ : S63)) (wrap64 ((wrap64 ((wrap64 ((wrap64 ((wrap64 ((wrap64 ((wrap64 (x1_1 + 1)) + 1)) + 1)) + 1)) + 1)) + 1)) + 1)) (wrap64 (x5_1 + 1)))))) = some (r1,r2) := by first | (rw [hy350];with_reducible exact H) | (have H2_ := (Option.bind_some _ _).symm.trans H;rw [hy350];with_reducible exact H2_) | (have H2_ := (Option.bind_some _ _).symm.trans H;with_reducible exact H2_) | with_reducible exact H | (rw [hy350];exact H) | exact H
     have Ny350 := am_ hy350
     clear hy350
     replace H := Option.bind_eq_some_iff.mp H
     obtain ⟨t351,A110,H⟩ := H
     try dsimp only at H
     have A11 := am_ A110
     clear A110
     obtain ⟨y352,hy352⟩ : ∃ y_ : List (S63),y_ = (y350.set (x5_1 : Int).toNat (⟨(rd_T63 y350 x5_1).f0,(rd_T63 y350 x5_1).f1,(rd_T63 y350 x5_1).f2,(rd_T63 y350 x5_1).f3,(rd_T63 y350 x5_1).f4,t351,(rd_T63 y350 x5_1).f6⟩ : S63)) := ⟨_,rfl⟩
     replace H : ((laws_markText.f k1 (wrap64 ((wrap64 ((wrap64 ((wrap64 ((wrap64 ((wrap64 (x1_1 + 1)) + 1)) + 1)) + 1)) + 1)) + 1))).bind fun t353 => (laws_markMessageS.l0 k1 (y352.set (x5_1 : Int).toNat (⟨(rd_T63 y352 x5_1).f0,(rd_T63 y352 x5_1).f1,(rd_T63 y352 x5_1).f2,(rd_T63 y352 x5_1).f3,(rd_T63 y352 x5_1).f4,(rd_T63 y352 x5_1).f5,t353⟩ : S63)) (wrap64 ((wrap64 ((wrap64 ((wrap64 ((wrap64 ((wrap64 ((wrap64 (x1_1 + 1)) + 1)) + 1)) + 1)) + 1)) + 1)) + 1)) (wrap64 (x5_1 + 1)))) = some (r1,r2) := by first | (rw [hy352];with_reducible exact H) | (have H2_ := (Option.bind_some _ _).symm.trans H;rw [hy352];with_reducible exact H2_) | (have H2_ := (Option.bind_some _ _).symm.trans H;with_reducible exact H2_) | with_reducible exact H | (rw [hy352];exact H) | exact H
     have Ny352 := am_ hy352
     clear hy352
     replace H := Option.bind_eq_some_iff.mp H
     obtain ⟨t353,A130,H⟩ := H
     try dsimp only at H
     have A13 := am_ A130
     clear A130
     obtain ⟨y354,hy354⟩ : ∃ y_ : List (S63),y_ = (y352.set (x5_1 : Int).toNat (⟨(rd_T63 y352 x5_1).f0,(rd_T63 y352 x5_1).f1,(rd_T63 y352 x5_1).f2,(rd_T63 y352 x5_1).f3,(rd_T63 y352 x5_1).f4,(rd_T63 y352 x5_1).f5,t353⟩ : S63)) := ⟨_,rfl⟩
     replace H : (laws_markMessageS.l0 k1 y354 (wrap64 ((wrap64 ((wrap64 ((wrap64 ((wrap64 ((wrap64 ((wrap64 (x1_1 + 1)) + 1)) + 1)) + 1)) + 1)) + 1)) + 1)) (wrap64 (x5_1 + 1))) = some (r1,r2) := by first | (rw [hy354];with_reducible exact H) | (have H2_ := (Option.bind_some _ _).symm.trans H;rw [hy354];with_reducible exact H2_) | (have H2_ := (Option.bind_some _ _).symm.trans H;with_reducible exact H2_) | with_reducible exact H | (rw [hy354];exact H) | exact H
     have Ny354 := am_ hy354
     clear hy354
     have H' := am_ H
     clear H
     obtain ⟨Ao15,co15,eo15⟩ := Kd.R_slice HO_0.out
     subst eo15
     have p5 : 0 ≤ (x5_1 : Int) := zo_
     have q5 : (x5_1 : Int) < ((x0_1.length : Int) : Int) := zo_
     obtain ⟨go5,co5,eo5,gb5,gl5,cl5,HG5⟩ := Kd.R_form HO_0.out (by omega)
     (first | cases eo5 | (injection eo5 with ea_ en_ ec_;(first | subst ea_ | (injection ea_ with ea_;subst ea_));subst ec_;clear en_))
     have GB5 := am_ gb5
     have GG5 := am_ HG5
     clear gb5 gl5 HG5
     have HMgo5 := am_ (show (P0_ go5 ∨ w.heap.size ≤ go5) from (HO_0.out.1 _ rfl))
     obtain ⟨ce5,hcl5,hM5,hcc5,hfr5⟩ := Kd.R_elem HO_0.out z63 (x5_1 : Int) p5 q5
     obtain rfl := k63_openM hM5
     have hx5_0 : wr.cell? ⟨go5,(x5_1 : Int).toNat * 7,none⟩ = some (.int .i64 ((rd_T63 x0_1 x5_1).f0)) := hcc5 0 _ rfl
     have hx5_1 : wr.cell? ⟨go5,(x5_1 : Int).toNat * 7 + 1,none⟩ = some (.int .i64 ((rd_T63 x0_1 x5_1).f1)) := hcc5 1 _ rfl
     have hx5_2 : wr.cell? ⟨go5,(x5_1 : Int).toNat * 7 + 2,none⟩ = some (.int .i64 ((rd_T63 x0_1 x5_1).f2)) := hcc5 2 _ rfl
     have hx5_3 : wr.cell? ⟨go5,(x5_1 : Int).toNat * 7 + 3,none⟩ = some (.int .i64 ((rd_T63 x0_1 x5_1).f3)) := hcc5 3 _ rfl
     have hx5_4 : wr.cell? ⟨go5,(x5_1 : Int).toNat * 7 + 4,none⟩ = some (.string ((rd_T63 x0_1 x5_1).f4)) := hcc5 4 _ rfl
     have hx5_5 : wr.cell? ⟨go5,(x5_1 : Int).toNat * 7 + 5,none⟩ = some (.string ((rd_T63 x0_1 x5_1).f5)) := hcc5 5 _ rfl
     have hx5_6 : wr.cell? ⟨go5,(x5_1 : Int).toNat * 7 + 6,none⟩ = some (.string ((rd_T63 x0_1 x5_1).f6)) := hcc5 6 _ rfl
     have hf5_0 : wr.frozen? ⟨go5,(x5_1 : Int).toNat * 7,none⟩ = false := hfr5 0
     have hf5_1 : wr.frozen? ⟨go5,(x5_1 : Int).toNat * 7 + 1,none⟩ = false := hfr5 1
     have hf5_2 : wr.frozen? ⟨go5,(x5_1 : Int).toNat * 7 + 2,none⟩ = false := hfr5 2
     have hf5_3 : wr.frozen? ⟨go5,(x5_1 : Int).toNat * 7 + 3,none⟩ = false := hfr5 3
     have hf5_4 : wr.frozen? ⟨go5,(x5_1 : Int).toNat * 7 + 4,none⟩ = false := hfr5 4
     have hf5_5 : wr.frozen? ⟨go5,(x5_1 : Int).toNat * 7 + 5,none⟩ = false := hfr5 5
     have hf5_6 : wr.frozen? ⟨go5,(x5_1 : Int).toNat * 7 + 6,none⟩ = false := hfr5 6
     clear hcl5 hcc5 hfr5 hM5
     replace p5 := eq_true p5
     replace q5 := eq_true q5
     have HX16 := am_ (show Kd.R k63 63 wr w0.heap.size (fun k_ => (P0_ k_ ∨ w.heap.size ≤ k_)) (.slice (some ⟨go5,0,none⟩) x0_1.length co15) x0_1 from (zr HO_0))
     obtain ⟨ce16,hcl16,hM16,hcc16,hfr16⟩ := Kd.R_elem HX16.out z63 (x5_1 : Int) (zo_) (by have h_ : (x5_1 : Int) < ((x0_1.length : Int) : Int) := zo_;first | exact h_ | (have e_ := (Kd.R_reads' HO_0.out).1;omega) | simpa using h_)
     obtain rfl := k63_openM hM16
     have HP16 := Kd.R_seg HX16.out (x5_1 : Int) (zo_) (by have h_ : (x5_1 : Int) < ((x0_1.length : Int) : Int) := zo_;first | exact h_ | (have e_ := (Kd.R_reads' HO_0.out).1;omega) | simpa using h_) (seg := [.int .i64 x1_1]) (j := 0) hcl16 hcc16 (show 1 ≤ 7 from by decide) (x' := (⟨x1_1,(rd_T63 x0_1 x5_1).f1,(rd_T63 x0_1 x5_1).f2,(rd_T63 x0_1 x5_1).f3,(rd_T63 x0_1 x5_1).f4,(rd_T63 x0_1 x5_1).f5,(rd_T63 x0_1 x5_1).f6⟩ : S63)) (k63_mkM _ _ _ (⟨x1_1,(rd_T63 x0_1 x5_1).f1,(rd_T63 x0_1 x5_1).f2,(rd_T63 x0_1 x5_1).f3,(rd_T63 x0_1 x5_1).f4,(rd_T63 x0_1 x5_1).f5,(rd_T63 x0_1 x5_1).f6⟩ : S63) ) (fun _ hk => hk)
     have hx16_0 := hcc16 0 _ rfl
     (try simp only [show (k63).sz = 7 from rfl,Nat.mul_one,Nat.add_zero] at hx16_0)
     have hf16_0 := hfr16 0
     (try simp only [show (k63).sz = 7 from rfl,Nat.mul_one,Nat.add_zero] at hf16_0)
     clear hcl16 hcc16 hfr16 hM16
     go_wp2_with (first | ((with_reducible refine gate_store (t := 3) (p := 16) rfl ?_);refine store_event (t := 3) (p := 16) (v := ?vo_w17) (w1 := (wr.setCell ⟨go5,(x5_1 : Int).toNat * 7,none⟩ (.int .i64 x1_1))) ?hg ?ho ?hn ?hr ?_;(case ho => rfl);(case hg => rfl);(case hn => rfl);(case hr => first | (go_simp;done) | (go_simp;rfl));intro w17 hw;have hg : wr.grownBy w17 (some go5) := (by rw [hw];exact HP16.2);have hp_ : Kd.R k63 63 w17 w0.heap.size (fun k_ => (P0_ k_ ∨ w.heap.size ≤ k_)) (.slice (some ⟨go5,0,none⟩) x0_1.length co15) y345 := (by rw [hw,Ny345.out];exact HP16.1);clear HP16;replace HB := am_ ((by rw [hw];exact below_set (HB.out) GB5.out : Below w0.heap.size w0 w17));replace HK := am_ (Kept.of_grown (S := (fun k_ => P0_ k_)) hg (by repeat (first | (with_reducible first | exact HK.out | apply Kept.alloc | apply Kept.drewN | apply Kept.drew) | exact HK.out)) (fun k_ e_ => (HO_0.out.1 k_ e_)));replace HO_0 := am_ (hp_);clear hg hw hp_;have p6 : 0 ≤ (x5_1 : Int) := zo_;have q6 : (x5_1 : Int) < ((x0_1.length : Int) : Int) := zo_;obtain ⟨ce6,hcl6,hM6,hcc6,hfr6⟩ := Kd.R_elem HO_0.out z63 (x5_1 : Int) p6 q6;obtain rfl := k63_openM hM6;have hx6_0 : w17.cell? ⟨go5,(x5_1 : Int).toNat * 7,none⟩ = some (.int .i64 ((rd_T63 y345 x5_1).f0)) := hcc6 0 _ rfl;have hx6_1 : w17.cell? ⟨go5,(x5_1 : Int).toNat * 7 + 1,none⟩ = some (.int .i64 ((rd_T63 y345 x5_1).f1)) := hcc6 1 _ rfl;have hx6_2 : w17.cell? ⟨go5,(x5_1 : Int).toNat * 7 + 2,none⟩ = some (.int .i64 ((rd_T63 y345 x5_1).f2)) := hcc6 2 _ rfl;have hx6_3 : w17.cell? ⟨go5,(x5_1 : Int).toNat * 7 + 3,none⟩ = some (.int .i64 ((rd_T63 y345 x5_1).f3)) := hcc6 3 _ rfl;have hx6_4 : w17.cell? ⟨go5,(x5_1 : Int).toNat * 7 + 4,none⟩ = some (.string ((rd_T63 y345 x5_1).f4)) := hcc6 4 _ rfl;have hx6_5 : w17.cell? ⟨go5,(x5_1 : Int).toNat * 7 + 5,none⟩ = some (.string ((rd_T63 y345 x5_1).f5)) := hcc6 5 _ rfl;have hx6_6 : w17.cell? ⟨go5,(x5_1 : Int).toNat * 7 + 6,none⟩ = some (.string ((rd_T63 y345 x5_1).f6)) := hcc6 6 _ rfl;have hf6_0 : w17.frozen? ⟨go5,(x5_1 : Int).toNat * 7,none⟩ = false := hfr6 0;have hf6_1 : w17.frozen? ⟨go5,(x5_1 : Int).toNat * 7 + 1,none⟩ = false := hfr6 1;have hf6_2 : w17.frozen? ⟨go5,(x5_1 : Int).toNat * 7 + 2,none⟩ = false := hfr6 2;have hf6_3 : w17.frozen? ⟨go5,(x5_1 : Int).toNat * 7 + 3,none⟩ = false := hfr6 3;have hf6_4 : w17.frozen? ⟨go5,(x5_1 : Int).toNat * 7 + 4,none⟩ = false := hfr6 4;have hf6_5 : w17.frozen? ⟨go5,(x5_1 : Int).toNat * 7 + 5,none⟩ = false := hfr6 5;have hf6_6 : w17.frozen? ⟨go5,(x5_1 : Int).toNat * 7 + 6,none⟩ = false := hfr6 6;clear hcl6 hcc6 hfr6 hM6;replace p6 := eq_true p6;replace q6 := eq_true q6;have HX18 := am_ (show Kd.R k63 63 w17 w0.heap.size (fun k_ => (P0_ k_ ∨ w.heap.size ≤ k_)) (.slice (some ⟨go5,0,none⟩) x0_1.length co15) y345 from (zr HO_0));obtain ⟨ce18,hcl18,hM18,hcc18,hfr18⟩ := Kd.R_elem HX18.out z63 (x5_1 : Int) (zo_) (by have h_ : (x5_1 : Int) < ((x0_1.length : Int) : Int) := zo_;first | exact h_ | (have e_ := (Kd.R_reads' HO_0.out).1;omega) | simpa using h_);obtain rfl := k63_openM hM18;have HP18 := Kd.R_seg HX18.out (x5_1 : Int) (zo_) (by have h_ : (x5_1 : Int) < ((x0_1.length : Int) : Int) := zo_;first | exact h_ | (have e_ := (Kd.R_reads' HO_0.out).1;omega) | simpa using h_) (seg := [.int .i64 (wrap64 (x1_1 + 1))]) (j := 1) hcl18 hcc18 (show 2 ≤ 7 from by decide) (x' := (⟨(rd_T63 y345 x5_1).f0,wrap64 (x1_1 + 1),(rd_T63 y345 x5_1).f2,(rd_T63 y345 x5_1).f3,(rd_T63 y345 x5_1).f4,(rd_T63 y345 x5_1).f5,(rd_T63 y345 x5_1).f6⟩ : S63)) (k63_mkM _ _ _ (⟨(rd_T63 y345 x5_1).f0,wrap64 (x1_1 + 1),(rd_T63 y345 x5_1).f2,(rd_T63 y345 x5_1).f3,(rd_T63 y345 x5_1).f4,(rd_T63 y345 x5_1).f5,(rd_T63 y345 x5_1).f6⟩ : S63) ) (fun _ hk => hk);have hx18_1 := hcc18 1 _ rfl;(try simp only [show (k63).sz = 7 from rfl,Nat.mul_one,Nat.add_zero] at hx18_1);have hf18_1 := hfr18 1;(try simp only [show (k63).sz = 7 from rfl,Nat.mul_one,Nat.add_zero] at hf18_1);clear hcl18 hcc18 hfr18 hM18) | ((with_reducible refine gate_store (t := 3) (p := 23) rfl ?_);refine store_event (t := 3) (p := 23) (v := ?vo_w19) (w1 := (w17.setCell ⟨go5,(x5_1 : Int).toNat * 7 + 1,none⟩ (.int .i64 (wrap64 (x1_1 + 1))))) ?hg ?ho ?hn ?hr ?_;(case ho => rfl);(case hg => rfl);(case hn => rfl);(case hr => first | (go_simp;done) | (go_simp;rfl));intro w19 hw;have hg : w17.grownBy w19 (some go5) := (by rw [hw];exact HP18.2);have hp_ : Kd.R k63 63 w19 w0.heap.size (fun k_ => (P0_ k_ ∨ w.heap.size ≤ k_)) (.slice (some ⟨go5,0,none⟩) x0_1.length co15) y346 := (by rw [hw,Ny346.out];exact HP18.1);clear HP18;replace HB := am_ ((by rw [hw];exact below_set (HB.out) GB5.out : Below w0.heap.size w0 w19));replace HK := am_ (Kept.of_grown (S := (fun k_ => P0_ k_)) hg (by repeat (first | (with_reducible first | exact HK.out | apply Kept.alloc | apply Kept.drewN | apply Kept.drew) | exact HK.out)) (fun k_ e_ => (HO_0.out.1 k_ e_)));replace HO_0 := am_ (hp_);clear hg hw hp_;have p7 : 0 ≤ (x5_1 : Int) := zo_;have q7 : (x5_1 : Int) < ((x0_1.length : Int) : Int) := zo_;obtain ⟨ce7,hcl7,hM7,hcc7,hfr7⟩ := Kd.R_elem HO_0.out z63 (x5_1 : Int) p7 q7;obtain rfl := k63_openM hM7;have hx7_0 : w19.cell? ⟨go5,(x5_1 : Int).toNat * 7,none⟩ = some (.int .i64 ((rd_T63 y346 x5_1).f0)) := hcc7 0 _ rfl;have hx7_1 : w19.cell? ⟨go5,(x5_1 : Int).toNat * 7 + 1,none⟩ = some (.int .i64 ((rd_T63 y346 x5_1).f1)) := hcc7 1 _ rfl;have hx7_2 : w19.cell? ⟨go5,(x5_1 : Int).toNat * 7 + 2,none⟩ = some (.int .i64 ((rd_T63 y346 x5_1).f2)) := hcc7 2 _ rfl;have hx7_3 : w19.cell? ⟨go5,(x5_1 : Int).toNat * 7 + 3,none⟩ = some (.int .i64 ((rd_T63 y346 x5_1).f3)) := hcc7 3 _ rfl;have hx7_4 : w19.cell? ⟨go5,(x5_1 : Int).toNat * 7 + 4,none⟩ = some (.string ((rd_T63 y346 x5_1).f4)) := hcc7 4 _ rfl;have hx7_5 : w19.cell? ⟨go5,(x5_1 : Int).toNat * 7 + 5,none⟩ = some (.string ((rd_T63 y346 x5_1).f5)) := hcc7 5 _ rfl;have hx7_6 : w19.cell? ⟨go5,(x5_1 : Int).toNat * 7 + 6,none⟩ = some (.string ((rd_T63 y346 x5_1).f6)) := hcc7 6 _ rfl;have hf7_0 : w19.frozen? ⟨go5,(x5_1 : Int).toNat * 7,none⟩ = false := hfr7 0;have hf7_1 : w19.frozen? ⟨go5,(x5_1 : Int).toNat * 7 + 1,none⟩ = false := hfr7 1;have hf7_2 : w19.frozen? ⟨go5,(x5_1 : Int).toNat * 7 + 2,none⟩ = false := hfr7 2;have hf7_3 : w19.frozen? ⟨go5,(x5_1 : Int).toNat * 7 + 3,none⟩ = false := hfr7 3;have hf7_4 : w19.frozen? ⟨go5,(x5_1 : Int).toNat * 7 + 4,none⟩ = false := hfr7 4;have hf7_5 : w19.frozen? ⟨go5,(x5_1 : Int).toNat * 7 + 5,none⟩ = false := hfr7 5;have hf7_6 : w19.frozen? ⟨go5,(x5_1 : Int).toNat * 7 + 6,none⟩ = false := hfr7 6;clear hcl7 hcc7 hfr7 hM7;replace p7 := eq_true p7;replace q7 := eq_true q7;have HX20 := am_ (show Kd.R k63 63 w19 w0.heap.size (fun k_ => (P0_ k_ ∨ w.heap.size ≤ k_)) (.slice (some ⟨go5,0,none⟩) x0_1.length co15) y346 from (zr HO_0));obtain ⟨ce20,hcl20,hM20,hcc20,hfr20⟩ := Kd.R_elem HX20.out z63 (x5_1 : Int) (zo_) (by have h_ : (x5_1 : Int) < ((x0_1.length : Int) : Int) := zo_;first | exact h_ | (have e_ := (Kd.R_reads' HO_0.out).1;omega) | simpa using h_);obtain rfl := k63_openM hM20;have HP20 := Kd.R_seg HX20.out (x5_1 : Int) (zo_) (by have h_ : (x5_1 : Int) < ((x0_1.length : Int) : Int) := zo_;first | exact h_ | (have e_ := (Kd.R_reads' HO_0.out).1;omega) | simpa using h_) (seg := [.int .i64 (wrap64 ((wrap64 (x1_1 + 1)) + 1))]) (j := 2) hcl20 hcc20 (show 3 ≤ 7 from by decide) (x' := (⟨(rd_T63 y346 x5_1).f0,(rd_T63 y346 x5_1).f1,wrap64 ((wrap64 (x1_1 + 1)) + 1),(rd_T63 y346 x5_1).f3,(rd_T63 y346 x5_1).f4,(rd_T63 y346 x5_1).f5,(rd_T63 y346 x5_1).f6⟩ : S63)) (k63_mkM _ _ _ (⟨(rd_T63 y346 x5_1).f0,(rd_T63 y346 x5_1).f1,wrap64 ((wrap64 (x1_1 + 1)) + 1),(rd_T63 y346 x5_1).f3,(rd_T63 y346 x5_1).f4,(rd_T63 y346 x5_1).f5,(rd_T63 y346 x5_1).f6⟩ : S63) ) (fun _ hk => hk);have hx20_2 := hcc20 2 _ rfl;(try simp only [show (k63).sz = 7 from rfl,Nat.mul_one,Nat.add_zero] at hx20_2);have hf20_2 := hfr20 2;(try simp only [show (k63).sz = 7 from rfl,Nat.mul_one,Nat.add_zero] at hf20_2);clear hcl20 hcc20 hfr20 hM20) | ((with_reducible refine gate_store (t := 3) (p := 30) rfl ?_);refine store_event (t := 3) (p := 30) (v := ?vo_w21) (w1 := (w19.setCell ⟨go5,(x5_1 : Int).toNat * 7 + 2,none⟩ (.int .i64 (wrap64 ((wrap64 (x1_1 + 1)) + 1))))) ?hg ?ho ?hn ?hr ?_;(case ho => rfl);(case hg => rfl);(case hn => rfl);(case hr => first | (go_simp;done) | (go_simp;rfl));intro w21 hw;have hg : w19.grownBy w21 (some go5) := (by rw [hw];exact HP20.2);have hp_ : Kd.R k63 63 w21 w0.heap.size (fun k_ => (P0_ k_ ∨ w.heap.size ≤ k_)) (.slice (some ⟨go5,0,none⟩) x0_1.length co15) y347 := (by rw [hw,Ny347.out];exact HP20.1);clear HP20;replace HB := am_ ((by rw [hw];exact below_set (HB.out) GB5.out : Below w0.heap.size w0 w21));replace HK := am_ (Kept.of_grown (S := (fun k_ => P0_ k_)) hg (by repeat (first | (with_reducible first | exact HK.out | apply Kept.alloc | apply Kept.drewN | apply Kept.drew) | exact HK.out)) (fun k_ e_ => (HO_0.out.1 k_ e_)));replace HO_0 := am_ (hp_);clear hg hw hp_;have p8 : 0 ≤ (x5_1 : Int) := zo_;have q8 : (x5_1 : Int) < ((x0_1.length : Int) : Int) := zo_;obtain ⟨ce8,hcl8,hM8,hcc8,hfr8⟩ := Kd.R_elem HO_0.out z63 (x5_1 : Int) p8 q8;obtain rfl := k63_openM hM8;have hx8_0 : w21.cell? ⟨go5,(x5_1 : Int).toNat * 7,none⟩ = some (.int .i64 ((rd_T63 y347 x5_1).f0)) := hcc8 0 _ rfl;have hx8_1 : w21.cell? ⟨go5,(x5_1 : Int).toNat * 7 + 1,none⟩ = some (.int .i64 ((rd_T63 y347 x5_1).f1)) := hcc8 1 _ rfl;have hx8_2 : w21.cell? ⟨go5,(x5_1 : Int).toNat * 7 + 2,none⟩ = some (.int .i64 ((rd_T63 y347 x5_1).f2)) := hcc8 2 _ rfl;have hx8_3 : w21.cell? ⟨go5,(x5_1 : Int).toNat * 7 + 3,none⟩ = some (.int .i64 ((rd_T63 y347 x5_1).f3)) := hcc8 3 _ rfl;have hx8_4 : w21.cell? ⟨go5,(x5_1 : Int).toNat * 7 + 4,none⟩ = some (.string ((rd_T63 y347 x5_1).f4)) := hcc8 4 _ rfl;have hx8_5 : w21.cell? ⟨go5,(x5_1 : Int).toNat * 7 + 5,none⟩ = some (.string ((rd_T63 y347 x5_1).f5)) := hcc8 5 _ rfl;have hx8_6 : w21.cell? ⟨go5,(x5_1 : Int).toNat * 7 + 6,none⟩ = some (.string ((rd_T63 y347 x5_1).f6)) := hcc8 6 _ rfl;have hf8_0 : w21.frozen? ⟨go5,(x5_1 : Int).toNat * 7,none⟩ = false := hfr8 0;have hf8_1 : w21.frozen? ⟨go5,(x5_1 : Int).toNat * 7 + 1,none⟩ = false := hfr8 1;have hf8_2 : w21.frozen? ⟨go5,(x5_1 : Int).toNat * 7 + 2,none⟩ = false := hfr8 2;have hf8_3 : w21.frozen? ⟨go5,(x5_1 : Int).toNat * 7 + 3,none⟩ = false := hfr8 3;have hf8_4 : w21.frozen? ⟨go5,(x5_1 : Int).toNat * 7 + 4,none⟩ = false := hfr8 4;have hf8_5 : w21.frozen? ⟨go5,(x5_1 : Int).toNat * 7 + 5,none⟩ = false := hfr8 5;have hf8_6 : w21.frozen? ⟨go5,(x5_1 : Int).toNat * 7 + 6,none⟩ = false := hfr8 6;clear hcl8 hcc8 hfr8 hM8;replace p8 := eq_true p8;replace q8 := eq_true q8;have HX22 := am_ (show Kd.R k63 63 w21 w0.heap.size (fun k_ => (P0_ k_ ∨ w.heap.size ≤ k_)) (.slice (some ⟨go5,0,none⟩) x0_1.length co15) y347 from (zr HO_0));obtain ⟨ce22,hcl22,hM22,hcc22,hfr22⟩ := Kd.R_elem HX22.out z63 (x5_1 : Int) (zo_) (by have h_ : (x5_1 : Int) < ((x0_1.length : Int) : Int) := zo_;first | exact h_ | (have e_ := (Kd.R_reads' HO_0.out).1;omega) | simpa using h_);obtain rfl := k63_openM hM22;have HP22 := Kd.R_seg HX22.out (x5_1 : Int) (zo_) (by have h_ : (x5_1 : Int) < ((x0_1.length : Int) : Int) := zo_;first | exact h_ | (have e_ := (Kd.R_reads' HO_0.out).1;omega) | simpa using h_) (seg := [.int .i64 (wrap64 ((wrap64 ((wrap64 (x1_1 + 1)) + 1)) + 1))]) (j := 3) hcl22 hcc22 (show 4 ≤ 7 from by decide) (x' := (⟨(rd_T63 y347 x5_1).f0,(rd_T63 y347 x5_1).f1,(rd_T63 y347 x5_1).f2,wrap64 ((wrap64 ((wrap64 (x1_1 + 1)) + 1)) + 1),(rd_T63 y347 x5_1).f4,(rd_T63 y347 x5_1).f5,(rd_T63 y347 x5_1).f6⟩ : S63)) (k63_mkM _ _ _ (⟨(rd_T63 y347 x5_1).f0,(rd_T63 y347 x5_1).f1,(rd_T63 y347 x5_1).f2,wrap64 ((wrap64 ((wrap64 (x1_1 + 1)) + 1)) + 1),(rd_T63 y347 x5_1).f4,(rd_T63 y347 x5_1).f5,(rd_T63 y347 x5_1).f6⟩ : S63) ) (fun _ hk => hk);have hx22_3 := hcc22 3 _ rfl;(try simp only [show (k63).sz = 7 from rfl,Nat.mul_one,Nat.add_zero] at hx22_3);have hf22_3 := hfr22 3;(try simp only [show (k63).sz = 7 from rfl,Nat.mul_one,Nat.add_zero] at hf22_3);clear hcl22 hcc22 hfr22 hM22) | ((with_reducible refine gate_store (t := 3) (p := 37) rfl ?_);refine store_event (t := 3) (p := 37) (v := ?vo_w23) (w1 := (w21.setCell ⟨go5,(x5_1 : Int).toNat * 7 + 3,none⟩ (.int .i64 (wrap64 ((wrap64 ((wrap64 (x1_1 + 1)) + 1)) + 1))))) ?hg ?ho ?hn ?hr ?_;(case ho => rfl);(case hg => rfl);(case hn => rfl);(case hr => first | (go_simp;done) | (go_simp;rfl));intro w23 hw;have hg : w21.grownBy w23 (some go5) := (by rw [hw];exact HP22.2);have hp_ : Kd.R k63 63 w23 w0.heap.size (fun k_ => (P0_ k_ ∨ w.heap.size ≤ k_)) (.slice (some ⟨go5,0,none⟩) x0_1.length co15) y348 := (by rw [hw,Ny348.out];exact HP22.1);clear HP22;replace HB := am_ ((by rw [hw];exact below_set (HB.out) GB5.out : Below w0.heap.size w0 w23));replace HK := am_ (Kept.of_grown (S := (fun k_ => P0_ k_)) hg (by repeat (first | (with_reducible first | exact HK.out | apply Kept.alloc | apply Kept.drewN | apply Kept.drew) | exact HK.out)) (fun k_ e_ => (HO_0.out.1 k_ e_)));replace HO_0 := am_ (hp_);clear hg hw hp_) | ((with_reducible refine gate_callee (f := 36) rfl ?_);refine zgl (some 43) Try.func36 #[.int .i64 (wrap64 ((wrap64 ((wrap64 ((wrap64 (x1_1 + 1)) + 1)) + 1)) + 1))] ?_;(with_reducible refine (laws_markText.calls k1 (wrap64 ((wrap64 ((wrap64 ((wrap64 (x1_1 + 1)) + 1)) + 1)) + 1)) t349 _ A9.out).mono ?_);rintro e w24 ⟨rfl,hb⟩;refine ⟨_,rfl,?_⟩;replace HO_0 := zrb HO_0 hb;replace HK := am_ (Kept.below (S := (fun k_ => P0_ k_)) (by repeat (first | (with_reducible first | exact HK.out | apply Kept.alloc | apply Kept.drewN | apply Kept.drew) | exact HK.out)) hb);replace HB := zs_ HB hb;(try clear hb);(try clear hb2);(try clear hk);(try clear hi);have p10 : 0 ≤ (x5_1 : Int) := zo_;have q10 : (x5_1 : Int) < ((x0_1.length : Int) : Int) := zo_;obtain ⟨ce10,hcl10,hM10,hcc10,hfr10⟩ := Kd.R_elem HO_0.out z63 (x5_1 : Int) p10 q10;obtain rfl := k63_openM hM10;have hx10_0 : w24.cell? ⟨go5,(x5_1 : Int).toNat * 7,none⟩ = some (.int .i64 ((rd_T63 y348 x5_1).f0)) := hcc10 0 _ rfl;have hx10_1 : w24.cell? ⟨go5,(x5_1 : Int).toNat * 7 + 1,none⟩ = some (.int .i64 ((rd_T63 y348 x5_1).f1)) := hcc10 1 _ rfl;have hx10_2 : w24.cell? ⟨go5,(x5_1 : Int).toNat * 7 + 2,none⟩ = some (.int .i64 ((rd_T63 y348 x5_1).f2)) := hcc10 2 _ rfl;have hx10_3 : w24.cell? ⟨go5,(x5_1 : Int).toNat * 7 + 3,none⟩ = some (.int .i64 ((rd_T63 y348 x5_1).f3)) := hcc10 3 _ rfl;have hx10_4 : w24.cell? ⟨go5,(x5_1 : Int).toNat * 7 + 4,none⟩ = some (.string ((rd_T63 y348 x5_1).f4)) := hcc10 4 _ rfl;have hx10_5 : w24.cell? ⟨go5,(x5_1 : Int).toNat * 7 + 5,none⟩ = some (.string ((rd_T63 y348 x5_1).f5)) := hcc10 5 _ rfl;have hx10_6 : w24.cell? ⟨go5,(x5_1 : Int).toNat * 7 + 6,none⟩ = some (.string ((rd_T63 y348 x5_1).f6)) := hcc10 6 _ rfl;have hf10_0 : w24.frozen? ⟨go5,(x5_1 : Int).toNat * 7,none⟩ = false := hfr10 0;have hf10_1 : w24.frozen? ⟨go5,(x5_1 : Int).toNat * 7 + 1,none⟩ = false := hfr10 1;have hf10_2 : w24.frozen? ⟨go5,(x5_1 : Int).toNat * 7 + 2,none⟩ = false := hfr10 2;have hf10_3 : w24.frozen? ⟨go5,(x5_1 : Int).toNat * 7 + 3,none⟩ = false := hfr10 3;have hf10_4 : w24.frozen? ⟨go5,(x5_1 : Int).toNat * 7 + 4,none⟩ = false := hfr10 4;have hf10_5 : w24.frozen? ⟨go5,(x5_1 : Int).toNat * 7 + 5,none⟩ = false := hfr10 5;have hf10_6 : w24.frozen? ⟨go5,(x5_1 : Int).toNat * 7 + 6,none⟩ = false := hfr10 6;clear hcl10 hcc10 hfr10 hM10;replace p10 := eq_true p10;replace q10 := eq_true q10;have HX25 := am_ (show Kd.R k63 63 w24 w0.heap.size (fun k_ => (P0_ k_ ∨ w.heap.size ≤ k_)) (.slice (some ⟨go5,0,none⟩) x0_1.length co15) y348 from (zr HO_0));obtain ⟨ce25,hcl25,hM25,hcc25,hfr25⟩ := Kd.R_elem HX25.out z63 (x5_1 : Int) (zo_) (by have h_ : (x5_1 : Int) < ((x0_1.length : Int) : Int) := zo_;first | exact h_ | (have e_ := (Kd.R_reads' HO_0.out).1;omega) | simpa using h_);obtain rfl := k63_openM hM25;have HP25 := Kd.R_seg HX25.out (x5_1 : Int) (zo_) (by have h_ : (x5_1 : Int) < ((x0_1.length : Int) : Int) := zo_;first | exact h_ | (have e_ := (Kd.R_reads' HO_0.out).1;omega) | simpa using h_) (seg := [.string t349]) (j := 4) hcl25 hcc25 (show 5 ≤ 7 from by decide) (x' := (⟨(rd_T63 y348 x5_1).f0,(rd_T63 y348 x5_1).f1,(rd_T63 y348 x5_1).f2,(rd_T63 y348 x5_1).f3,t349,(rd_T63 y348 x5_1).f5,(rd_T63 y348 x5_1).f6⟩ : S63)) (k63_mkM _ _ _ (⟨(rd_T63 y348 x5_1).f0,(rd_T63 y348 x5_1).f1,(rd_T63 y348 x5_1).f2,(rd_T63 y348 x5_1).f3,t349,(rd_T63 y348 x5_1).f5,(rd_T63 y348 x5_1).f6⟩ : S63) ) (fun _ hk => hk);have hx25_4 := hcc25 4 _ rfl;(try simp only [show (k63).sz = 7 from rfl,Nat.mul_one,Nat.add_zero] at hx25_4);have hf25_4 := hfr25 4;(try simp only [show (k63).sz = 7 from rfl,Nat.mul_one,Nat.add_zero] at hf25_4);clear hcl25 hcc25 hfr25 hM25) | ((with_reducible refine gate_store (t := 9) (p := 45) rfl ?_);refine store_event (t := 9) (p := 45) (v := ?vo_w26) (w1 := (w24.setCell ⟨go5,(x5_1 : Int).toNat * 7 + 4,none⟩ (.string t349))) ?hg ?ho ?hn ?hr ?_;(case ho => rfl);(case hg => rfl);(case hn => rfl);(case hr => first | (go_simp;done) | (go_simp;rfl));intro w26 hw;have hg : w24.grownBy w26 (some go5) := (by rw [hw];exact HP25.2);have hp_ : Kd.R k63 63 w26 w0.heap.size (fun k_ => (P0_ k_ ∨ w.heap.size ≤ k_)) (.slice (some ⟨go5,0,none⟩) x0_1.length co15) y350 := (by rw [hw,Ny350.out];exact HP25.1);clear HP25;replace HB := am_ ((by rw [hw];exact below_set (HB.out) GB5.out : Below w0.heap.size w0 w26));replace HK := am_ (Kept.of_grown (S := (fun k_ => P0_ k_)) hg (by repeat (first | (with_reducible first | exact HK.out | apply Kept.alloc | apply Kept.drewN | apply Kept.drew) | exact HK.out)) (fun k_ e_ => (HO_0.out.1 k_ e_)));replace HO_0 := am_ (hp_);clear hg hw hp_) | ((with_reducible refine gate_callee (f := 36) rfl ?_);refine zgl (some 51) Try.func36 #[.int .i64 (wrap64 ((wrap64 ((wrap64 ((wrap64 ((wrap64 (x1_1 + 1)) + 1)) + 1)) + 1)) + 1))] ?_;(with_reducible refine (laws_markText.calls k1 (wrap64 ((wrap64 ((wrap64 ((wrap64 ((wrap64 (x1_1 + 1)) + 1)) + 1)) + 1)) + 1)) t351 _ A11.out).mono ?_);rintro e w27 ⟨rfl,hb⟩;refine ⟨_,rfl,?_⟩;replace HO_0 := zrb HO_0 hb;replace HK := am_ (Kept.below (S := (fun k_ => P0_ k_)) (by repeat (first | (with_reducible first | exact HK.out | apply Kept.alloc | apply Kept.drewN | apply Kept.drew) | exact HK.out)) hb);replace HB := zs_ HB hb;(try clear hb);(try clear hb2);(try clear hk);(try clear hi);have p12 : 0 ≤ (x5_1 : Int) := zo_;have q12 : (x5_1 : Int) < ((x0_1.length : Int) : Int) := zo_;obtain ⟨ce12,hcl12,hM12,hcc12,hfr12⟩ := Kd.R_elem HO_0.out z63 (x5_1 : Int) p12 q12;obtain rfl := k63_openM hM12;have hx12_0 : w27.cell? ⟨go5,(x5_1 : Int).toNat * 7,none⟩ = some (.int .i64 ((rd_T63 y350 x5_1).f0)) := hcc12 0 _ rfl;have hx12_1 : w27.cell? ⟨go5,(x5_1 : Int).toNat * 7 + 1,none⟩ = some (.int .i64 ((rd_T63 y350 x5_1).f1)) := hcc12 1 _ rfl;have hx12_2 : w27.cell? ⟨go5,(x5_1 : Int).toNat * 7 + 2,none⟩ = some (.int .i64 ((rd_T63 y350 x5_1).f2)) := hcc12 2 _ rfl;have hx12_3 : w27.cell? ⟨go5,(x5_1 : Int).toNat * 7 + 3,none⟩ = some (.int .i64 ((rd_T63 y350 x5_1).f3)) := hcc12 3 _ rfl;have hx12_4 : w27.cell? ⟨go5,(x5_1 : Int).toNat * 7 + 4,none⟩ = some (.string ((rd_T63 y350 x5_1).f4)) := hcc12 4 _ rfl;have hx12_5 : w27.cell? ⟨go5,(x5_1 : Int).toNat * 7 + 5,none⟩ = some (.string ((rd_T63 y350 x5_1).f5)) := hcc12 5 _ rfl;have hx12_6 : w27.cell? ⟨go5,(x5_1 : Int).toNat * 7 + 6,none⟩ = some (.string ((rd_T63 y350 x5_1).f6)) := hcc12 6 _ rfl;have hf12_0 : w27.frozen? ⟨go5,(x5_1 : Int).toNat * 7,none⟩ = false := hfr12 0;have hf12_1 : w27.frozen? ⟨go5,(x5_1 : Int).toNat * 7 + 1,none⟩ = false := hfr12 1;have hf12_2 : w27.frozen? ⟨go5,(x5_1 : Int).toNat * 7 + 2,none⟩ = false := hfr12 2;have hf12_3 : w27.frozen? ⟨go5,(x5_1 : Int).toNat * 7 + 3,none⟩ = false := hfr12 3;have hf12_4 : w27.frozen? ⟨go5,(x5_1 : Int).toNat * 7 + 4,none⟩ = false := hfr12 4;have hf12_5 : w27.frozen? ⟨go5,(x5_1 : Int).toNat * 7 + 5,none⟩ = false := hfr12 5;have hf12_6 : w27.frozen? ⟨go5,(x5_1 : Int).toNat * 7 + 6,none⟩ = false := hfr12 6;clear hcl12 hcc12 hfr12 hM12;replace p12 := eq_true p12;replace q12 := eq_true q12;have HX28 := am_ (show Kd.R k63 63 w27 w0.heap.size (fun k_ => (P0_ k_ ∨ w.heap.size ≤ k_)) (.slice (some ⟨go5,0,none⟩) x0_1.length co15) y350 from (zr HO_0));obtain ⟨ce28,hcl28,hM28,hcc28,hfr28⟩ := Kd.R_elem HX28.out z63 (x5_1 : Int) (zo_) (by have h_ : (x5_1 : Int) < ((x0_1.length : Int) : Int) := zo_;first | exact h_ | (have e_ := (Kd.R_reads' HO_0.out).1;omega) | simpa using h_);obtain rfl := k63_openM hM28;have HP28 := Kd.R_seg HX28.out (x5_1 : Int) (zo_) (by have h_ : (x5_1 : Int) < ((x0_1.length : Int) : Int) := zo_;first | exact h_ | (have e_ := (Kd.R_reads' HO_0.out).1;omega) | simpa using h_) (seg := [.string t351]) (j := 5) hcl28 hcc28 (show 6 ≤ 7 from by decide) (x' := (⟨(rd_T63 y350 x5_1).f0,(rd_T63 y350 x5_1).f1,(rd_T63 y350 x5_1).f2,(rd_T63 y350 x5_1).f3,(rd_T63 y350 x5_1).f4,t351,(rd_T63 y350 x5_1).f6⟩ : S63)) (k63_mkM _ _ _ (⟨(rd_T63 y350 x5_1).f0,(rd_T63 y350 x5_1).f1,(rd_T63 y350 x5_1).f2,(rd_T63 y350 x5_1).f3,(rd_T63 y350 x5_1).f4,t351,(rd_T63 y350 x5_1).f6⟩ : S63) ) (fun _ hk => hk);have hx28_5 := hcc28 5 _ rfl;(try simp only [show (k63).sz = 7 from rfl,Nat.mul_one,Nat.add_zero] at hx28_5);have hf28_5 := hfr28 5;(try simp only [show (k63).sz = 7 from rfl,Nat.mul_one,Nat.add_zero] at hf28_5);clear hcl28 hcc28 hfr28 hM28) | ((with_reducible refine gate_store (t := 9) (p := 53) rfl ?_);refine store_event (t := 9) (p := 53) (v := ?vo_w29) (w1 := (w27.setCell ⟨go5,(x5_1 : Int).toNat * 7 + 5,none⟩ (.string t351))) ?hg ?ho ?hn ?hr ?_;(case ho => rfl);(case hg => rfl);(case hn => rfl);(case hr => first | (go_simp;done) | (go_simp;rfl));intro w29 hw;have hg : w27.grownBy w29 (some go5) := (by rw [hw];exact HP28.2);have hp_ : Kd.R k63 63 w29 w0.heap.size (fun k_ => (P0_ k_ ∨ w.heap.size ≤ k_)) (.slice (some ⟨go5,0,none⟩) x0_1.length co15) y352 := (by rw [hw,Ny352.out];exact HP28.1);clear HP28;replace HB := am_ ((by rw [hw];exact below_set (HB.out) GB5.out : Below w0.heap.size w0 w29));replace HK := am_ (Kept.of_grown (S := (fun k_ => P0_ k_)) hg (by repeat (first | (with_reducible first | exact HK.out | apply Kept.alloc | apply Kept.drewN | apply Kept.drew) | exact HK.out)) (fun k_ e_ => (HO_0.out.1 k_ e_)));replace HO_0 := am_ (hp_);clear hg hw hp_) | ((with_reducible refine gate_callee (f := 36) rfl ?_);refine zgl (some 59) Try.func36 #[.int .i64 (wrap64 ((wrap64 ((wrap64 ((wrap64 ((wrap64 ((wrap64 (x1_1 + 1)) + 1)) + 1)) + 1)) + 1)) + 1))] ?_;(with_reducible refine (laws_markText.calls k1 (wrap64 ((wrap64 ((wrap64 ((wrap64 ((wrap64 ((wrap64 (x1_1 + 1)) + 1)) + 1)) + 1)) + 1)) + 1)) t353 _ A13.out).mono ?_);rintro e w30 ⟨rfl,hb⟩;refine ⟨_,rfl,?_⟩;replace HO_0 := zrb HO_0 hb;replace HK := am_ (Kept.below (S := (fun k_ => P0_ k_)) (by repeat (first | (with_reducible first | exact HK.out | apply Kept.alloc | apply Kept.drewN | apply Kept.drew) | exact HK.out)) hb);replace HB := zs_ HB hb;(try clear hb);(try clear hb2);(try clear hk);(try clear hi);have p14 : 0 ≤ (x5_1 : Int) := zo_;have q14 : (x5_1 : Int) < ((x0_1.length : Int) : Int) := zo_;obtain ⟨ce14,hcl14,hM14,hcc14,hfr14⟩ := Kd.R_elem HO_0.out z63 (x5_1 : Int) p14 q14;obtain rfl := k63_openM hM14;have hx14_0 : w30.cell? ⟨go5,(x5_1 : Int).toNat * 7,none⟩ = some (.int .i64 ((rd_T63 y352 x5_1).f0)) := hcc14 0 _ rfl;have hx14_1 : w30.cell? ⟨go5,(x5_1 : Int).toNat * 7 + 1,none⟩ = some (.int .i64 ((rd_T63 y352 x5_1).f1)) := hcc14 1 _ rfl;have hx14_2 : w30.cell? ⟨go5,(x5_1 : Int).toNat * 7 + 2,none⟩ = some (.int .i64 ((rd_T63 y352 x5_1).f2)) := hcc14 2 _ rfl;have hx14_3 : w30.cell? ⟨go5,(x5_1 : Int).toNat * 7 + 3,none⟩ = some (.int .i64 ((rd_T63 y352 x5_1).f3)) := hcc14 3 _ rfl;have hx14_4 : w30.cell? ⟨go5,(x5_1 : Int).toNat * 7 + 4,none⟩ = some (.string ((rd_T63 y352 x5_1).f4)) := hcc14 4 _ rfl;have hx14_5 : w30.cell? ⟨go5,(x5_1 : Int).toNat * 7 + 5,none⟩ = some (.string ((rd_T63 y352 x5_1).f5)) := hcc14 5 _ rfl;have hx14_6 : w30.cell? ⟨go5,(x5_1 : Int).toNat * 7 + 6,none⟩ = some (.string ((rd_T63 y352 x5_1).f6)) := hcc14 6 _ rfl;have hf14_0 : w30.frozen? ⟨go5,(x5_1 : Int).toNat * 7,none⟩ = false := hfr14 0;have hf14_1 : w30.frozen? ⟨go5,(x5_1 : Int).toNat * 7 + 1,none⟩ = false := hfr14 1;have hf14_2 : w30.frozen? ⟨go5,(x5_1 : Int).toNat * 7 + 2,none⟩ = false := hfr14 2;have hf14_3 : w30.frozen? ⟨go5,(x5_1 : Int).toNat * 7 + 3,none⟩ = false := hfr14 3;have hf14_4 : w30.frozen? ⟨go5,(x5_1 : Int).toNat * 7 + 4,none⟩ = false := hfr14 4;have hf14_5 : w30.frozen? ⟨go5,(x5_1 : Int).toNat * 7 + 5,none⟩ = false := hfr14 5;have hf14_6 : w30.frozen? ⟨go5,(x5_1 : Int).toNat * 7 + 6,none⟩ = false := hfr14 6;clear hcl14 hcc14 hfr14 hM14;replace p14 := eq_true p14;replace q14 := eq_true q14;have HX31 := am_ (show Kd.R k63 63 w30 w0.heap.size (fun k_ => (P0_ k_ ∨ w.heap.size ≤ k_)) (.slice (some ⟨go5,0,none⟩) x0_1.length co15) y352 from (zr HO_0));obtain ⟨ce31,hcl31,hM31,hcc31,hfr31⟩ := Kd.R_elem HX31.out z63 (x5_1 : Int) (zo_) (by have h_ : (x5_1 : Int) < ((x0_1.length : Int) : Int) := zo_;first | exact h_ | (have e_ := (Kd.R_reads' HO_0.out).1;omega) | simpa using h_);obtain rfl := k63_openM hM31;have HP31 := Kd.R_seg HX31.out (x5_1 : Int) (zo_) (by have h_ : (x5_1 : Int) < ((x0_1.length : Int) : Int) := zo_;first | exact h_ | (have e_ := (Kd.R_reads' HO_0.out).1;omega) | simpa using h_) (seg := [.string t353]) (j := 6) hcl31 hcc31 (show 7 ≤ 7 from by decide) (x' := (⟨(rd_T63 y352 x5_1).f0,(rd_T63 y352 x5_1).f1,(rd_T63 y352 x5_1).f2,(rd_T63 y352 x5_1).f3,(rd_T63 y352 x5_1).f4,(rd_T63 y352 x5_1).f5,t353⟩ : S63)) (k63_mkM _ _ _ (⟨(rd_T63 y352 x5_1).f0,(rd_T63 y352 x5_1).f1,(rd_T63 y352 x5_1).f2,(rd_T63 y352 x5_1).f3,(rd_T63 y352 x5_1).f4,(rd_T63 y352 x5_1).f5,t353⟩ : S63) ) (fun _ hk => hk);have hx31_6 := hcc31 6 _ rfl;(try simp only [show (k63).sz = 7 from rfl,Nat.mul_one,Nat.add_zero] at hx31_6);have hf31_6 := hfr31 6;(try simp only [show (k63).sz = 7 from rfl,Nat.mul_one,Nat.add_zero] at hf31_6);clear hcl31 hcc31 hfr31 hM31) | ((with_reducible refine gate_store (t := 9) (p := 61) rfl ?_);refine store_event (t := 9) (p := 61) (v := ?vo_w32) (w1 := (w30.setCell ⟨go5,(x5_1 : Int).toNat * 7 + 6,none⟩ (.string t353))) ?hg ?ho ?hn ?hr ?_;(case ho => rfl);(case hg => rfl);(case hn => rfl);(case hr => first | (go_simp;done) | (go_simp;rfl));intro w32 hw;have hg : w30.grownBy w32 (some go5) := (by rw [hw];exact HP31.2);have hp_ : Kd.R k63 63 w32 w0.heap.size (fun k_ => (P0_ k_ ∨ w.heap.size ≤ k_)) (.slice (some ⟨go5,0,none⟩) x0_1.length co15) y354 := (by rw [hw,Ny354.out];exact HP31.1);clear HP31;replace HB := am_ ((by rw [hw];exact below_set (HB.out) GB5.out : Below w0.heap.size w0 w32));replace HK := am_ (Kept.of_grown (S := (fun k_ => P0_ k_)) hg (by repeat (first | (with_reducible first | exact HK.out | apply Kept.alloc | apply Kept.drewN | apply Kept.drew) | exact HK.out)) (fun k_ e_ => (HO_0.out.1 k_ e_)));replace HO_0 := am_ (hp_);clear hg hw hp_))
     go_roundg k1
     case measure => have := HK1.out;omega
     case rel => exact ⟨(y354),(wrap64 ((wrap64 ((wrap64 ((wrap64 ((wrap64 ((wrap64 ((wrap64 (x1_1 + 1)) + 1)) + 1)) + 1)) + 1)) + 1)) + 1)),(wrap64 (x5_1 + 1)),(by first | rfl | (simp;done) | (simp [*];done)),(by first | rfl | (simp;done) | (simp [*];done)),H',⟨by have := HK1.out;omega⟩,⟨zr HO_0⟩,⟨by repeat (first | (with_reducible first | exact HK.out | apply Kept.alloc | apply Kept.drewN | apply Kept.drew) | exact HK.out)⟩,⟨zl_ HB⟩⟩
    ·rw [if_neg c4] at H
     exact absurd H (by simp)
   ·rw [if_neg c3] at H
    have c3b0 : decide (x5_1 < (x0_1.length : Int)) = false := decide_eq_false c3
    clear c3
    simp only [Option.some.injEq,Prod.mk.injEq] at H
    obtain ⟨rfl,rfl⟩ := H
    obtain ⟨Ao33,co33,eo33⟩ := Kd.R_slice HO_0.out
    subst eo33
    go_wp2
    go_ret
    exact ⟨zt_,zr HO_0,zl_ HB,by repeat (first | (with_reducible first | exact HK.out | apply Kept.alloc | apply Kept.drewN | apply Kept.drew) | exact HK.out)⟩
set_option maxHeartbeats 8000000 in
set_option maxRecDepth 100000 in
theorem laws_markCert.calls (k : Nat) (a0_0 : ByteArray) (P0_1_ : Nat → Prop) (u9000_ : Value) (l0_1 : List (S63)) (a1 : Int) (r1 : Int) (r2 : List (S63)) (w0 w : World) (hB : Below w0.heap.size w0 w) (ho0_1 : Kd.R k63 63 w w0.heap.size P0_1_ u9000_ l0_1) (h : laws_markCert.f k a0_0 l0_1 a1 = some (r1,r2)) :
  Calls Try.prog 21 #[.agg #[.string a0_0,u9000_],.int .i64 a1] w fun e w' => e = .returned (.int .i64 r1) ∧ Kd.R k63 63 w' w0.heap.size (fun k_ => (P0_1_ k_ ∨ w.heap.size ≤ k_)) u9000_ r2 ∧ Below w0.heap.size w0 w' ∧ Kept w w' (fun k_ => P0_1_ k_) := by
 have hu39 := Try.underlying39
 have HO0_1 := am_ (show Kd.R k63 63 w w0.heap.size (fun k_ => (P0_1_ k_ ∨ w.heap.size ≤ k_)) u9000_ l0_1 from Kd.R_mono ho0_1 (fun k_ hk => (.inl hk)))
 have HK := am_ (Kept.refl w (fun k_ => P0_1_ k_))
 have HW0 := am_ hB.size
 have HB := am_ hB
 clear hB
 have H : ((laws_markMessageS.f k l0_1 a1).bind fun bt356 => (some (bt356.1,bt356.2))) = some (r1,r2) := h
 clear h
 replace H := Option.bind_eq_some_iff.mp H
 obtain ⟨⟨t356,t357⟩,A30,H⟩ := H
 try dsimp only at H
 have A3 := am_ A30
 clear A30
 simp only [Option.some.injEq,Prod.mk.injEq] at H
 obtain ⟨rfl,rfl⟩ := H
 obtain ⟨Ao4,co4,eo4⟩ := Kd.R_slice HO0_1.out
 subst eo4
 go_enter Try.func21,Try.ntmps21
 go_wp2_with (first | ((with_reducible refine gate_dst (N := 2) rfl ?_);refine zbx (N := 2) (cs := #[.string a0_0,.slice Ao4 l0_1.length co4]) (t := 39) ?_;intro gb355 hg w5 hbox hb;replace HO0_1 := am_ (Kd.R_below (by (with_reducible repeat (first | apply r1_ | apply r2_ | apply r3_));exact HO0_1.out) hb);have BK355 := am_ (hbox);have GW355 := am_ ((by rw [hg];exact (by first | exact HK.out.1 | exact (show Kept w _ (fun k_ => P0_1_ k_) from by repeat (first | (with_reducible first | exact HK.out | apply Kept.alloc | apply Kept.drewN | apply Kept.drew) | exact HK.out)).1) : w.heap.size ≤ gb355));replace HK := am_ (Kept.below (S := (fun k_ => P0_1_ k_)) (by repeat (first | (with_reducible first | exact HK.out | apply Kept.alloc | apply Kept.drewN | apply Kept.drew) | exact HK.out)) hb);have GE355 := am_ ((by rw [hg];exact (below_size (zl_ HB)) : w0.heap.size ≤ gb355));replace HB := zs_ HB hb;clear hb hbox hg;obtain ⟨hcz6_0,hcz6_1,hfz6_0,hfz6_1⟩ := zc2 BK355) | ((with_reducible refine gate_callee (f := 43) rfl ?_);refine zgl (some 8) Try.func43 #[.slice Ao4 l0_1.length co4,.int .i64 a1] ?_;(with_reducible refine (laws_markMessageS.calls k (fun k_ => some k_ = (.slice Ao4 l0_1.length co4 : Value).ownBlock) (.slice Ao4 l0_1.length co4) l0_1 a1 t356 t357 w0 _ ?side1 ?side2 A3.out).mono ?_);(case side1 => exact zl_ HB);(case side2 => exact Kd.R_tight rfl HO0_1.out);rintro e w7 ⟨rfl,hy0,hb,hkp⟩;refine ⟨_,rfl,?_⟩;replace HK := am_ (Kept.then_ (S := (fun k_ => P0_1_ k_)) (by repeat (first | (with_reducible first | exact HK.out | apply Kept.alloc | apply Kept.drewN | apply Kept.drew | refine Kept.setCell ?_ (.inr GW355.out) _) | exact HK.out)) hkp (fun k_ hs_ => (fun e_ => (HO0_1.out.1 k_ e_.symm)) hs_));replace HO0_1 := am_ (Kd.R_reok rfl hy0 (fun k_ e_ => HO0_1.out.1 k_ e_));replace HB := am_ (hb);(try clear hb);(try clear hkp);(try clear hy0)))
 go_ret
 exact ⟨zt_,by (with_reducible repeat (first | apply r1_ | apply r2_ | apply r3_));exact HO0_1.out,zl_ HB,by repeat (first | (with_reducible first | exact HK.out | apply Kept.alloc | apply Kept.drewN | apply Kept.drew | refine Kept.setCell ?_ (.inr GW355.out) _) | exact HK.out)⟩
set_option maxHeartbeats 8000000 in
set_option maxRecDepth 100000 in
theorem laws_toByteS.calls (k : Nat) (A0 : Option Addr) (c0 : Nat) (l0 : List Int) (r : List Int) (w : World) (hr0 : Kd.C (Kd.int .u8) w A0 l0.length l0) (hc0 : l0.length ≤ c0) (h : laws_toByteS.f k l0 = some r) :
  Calls Try.prog 23 #[.slice A0 l0.length c0] w fun e w' => ∃ v0_ : Value,e = .returned (v0_) ∧ Kd.R (Kd.int .u8) 5 w' w.heap.size (fun _ => True) v0_ r ∧ Below w.heap.size w w' := by
 have HR0 := am_ hr0
 have HC0 := am_ hc0
 clear hr0 hc0
 have HB := am_ (Below.refl w.heap.size w)
 have H : (if 0 ≤ (l0.length : Int) then (if ((l0.length : Int) : Int).toNat ≤ 281474976710656 then (laws_toByteS.l0 k l0 (List.replicate ((l0.length : Int) : Int).toNat 0) 0) else (none)) else (none)) = some r := h
 clear h
 by_cases c2 : 0 ≤ (l0.length : Int)
 ·rw [if_pos c2] at H
  have c2b0 := eq_true c2
  have c2b1 : decide (0 ≤ (l0.length : Int)) = true := decide_eq_true c2
  clear c2
  by_cases c3 : ((l0.length : Int) : Int).toNat ≤ 281474976710656
  ·rw [if_pos c3] at H
   have c3b0 := eq_true c3
   have c3b1 : decide (((l0.length : Int) : Int).toNat ≤ 281474976710656) = true := decide_eq_true c3
   clear c3
   obtain ⟨y453,hy453⟩ : ∃ y_ : List Int,y_ = (List.replicate ((l0.length : Int) : Int).toNat 0) := ⟨_,rfl⟩
   replace H : (laws_toByteS.l0 k l0 y453 0) = some r := by first | (rw [hy453];with_reducible exact H) | (have H2_ := (Option.bind_some _ _).symm.trans H;rw [hy453];with_reducible exact H2_) | (have H2_ := (Option.bind_some _ _).symm.trans H;with_reducible exact H2_) | with_reducible exact H | (rw [hy453];exact H) | exact H
   have Ny453 := am_ hy453
   clear hy453
   have H' := am_ H
   clear H
   go_enter Try.func23,Try.ntmps23
   go_wp2_with (first | ((with_reducible refine gate_dst (N := 7) rfl ?_);refine Kd.R_make (Kd.int .u8) _ 5 rfl (N := 7) rfl 24 _ _ rfl (l0.length : Int) rfl rfl Try.underlying24 (.int .u8 0) 1 info5 rfl (by decide) (by omega) 0 (ok := fun _ => True) (okp := fun _ => True) rfl (fun _ hk => hk) trivial (zo_) (Nat.le_trans (Nat.mul_le_mul_right _ (zo_ : (l0.length : Int).toNat ≤ 281474976710656)) (by omega)) (Below.refl _ _) (Nat.le_refl _) ?_;intro v454 w4 ho5 hb hg_ hnew_;clear hg_ hnew_;(first | rw [← Ny453.out] at ho5 | (simp only [Int.reduceToNat] at ho5;rw [← Ny453.out] at ho5));have HO455 := am_ (Kd.R_lower ho5 (below_size (zl_ HB)));replace HB := zs_ HB hb;clear hb ho5))
   go_loopg [4] k (fun kq v4 w' => ∃ (x3_1 : List Int) (x4_1 : Int),v4 = .int .i64 x4_1 ∧ Aside0 (laws_toByteS.l0 kq l0 x3_1 x4_1 = some r) ∧ Aside0 (kq ≤ k) ∧ Aside0 (Kd.R (Kd.int .u8) 5 w' w.heap.size (fun _ => True) v454 x3_1) ∧ Aside0 (Below w.heap.size w w'))
   case atStart => exact ⟨(y453),(0),(by first | rfl | (simp;done) | (simp [*];done)),H',⟨Nat.le_refl _⟩,⟨zr HO455⟩,⟨zl_ HB⟩⟩
   case round =>
    clear H'
    try clear c2
    try clear c2b0
    try clear c2b1
    try clear p2
    try clear c3
    try clear c3b0
    try clear c3b1
    obtain ⟨x3_1,x4_1,rfl,HA,HK1,HO_3,HB⟩ := hrel
    cases gk with
    | zero => exact absurd HA.out (by simp [laws_toByteS.l0])
    | succ k1 =>
     have H := HA.out
     clear HA
     simp only [laws_toByteS.l0] at H
     by_cases c6 : x4_1 < (l0.length : Int)
     ·rw [if_pos c6] at H
      have c6b0 : decide (x4_1 < (l0.length : Int)) = true := decide_eq_true c6
      clear c6
      by_cases c7 : 0 ≤ x4_1
      ·rw [if_pos c7] at H
       have c7b0 : decide (0 ≤ x4_1) = true := decide_eq_true c7
       clear c7
       by_cases c8 : x4_1 < (x3_1.length : Int)
       ·rw [if_pos c8] at H
        have c8b0 : decide (x4_1 < (x3_1.length : Int)) = true := decide_eq_true c8
        clear c8
        obtain ⟨y457,hy457⟩ : ∃ y_ : List Int,y_ = (x3_1.set (x4_1 : Int).toNat (rd l0 x4_1)) := ⟨_,rfl⟩
        replace H : (laws_toByteS.l0 k1 l0 y457 (wrap64 (x4_1 + 1))) = some r := by first | (rw [hy457];with_reducible exact H) | (have H2_ := (Option.bind_some _ _).symm.trans H;rw [hy457];with_reducible exact H2_) | (have H2_ := (Option.bind_some _ _).symm.trans H;with_reducible exact H2_) | with_reducible exact H | (rw [hy457];exact H) | exact H
        have Ny457 := am_ hy457
        clear hy457
        have H' := am_ H
        clear H
        have p456 : 0 ≤ (x4_1 : Int) := zo_
        have q456 : x4_1 < (l0.length : Int) := zo_
        obtain ⟨ad456,e456,hx456_0⟩ := Kd.at_int HR0.out x4_1 p456 q456
        cases e456
        replace hx456_0 := zx_ HB hx456_0
        replace p456 := eq_true p456
        replace q456 := eq_true q456
        have p9 : 0 ≤ (x4_1 : Int) := zo_
        have q9 : (x4_1 : Int) < ((x3_1.length : Int) : Int) := zo_
        obtain ⟨go9,co9,eo9,gb9,gl9,cl9,HG9⟩ := Kd.R_form HO_3.out (by omega)
        (first | cases eo9 | (injection eo9 with ea_ en_ ec_;(first | subst ea_ | (injection ea_ with ea_;subst ea_));subst ec_;clear en_))
        have GB9 := am_ gb9
        have GG9 := am_ HG9
        clear gb9 gl9 HG9
        obtain ⟨hx9_0,hf9_0⟩ := Kd.R_celln 0 HO_3.out (x4_1 : Int) p9 q9
        replace p9 := eq_true p9
        replace q9 := eq_true q9
        have HP10 := Kd.R_putg HO_3.out (x4_1 : Int) (rd l0 x4_1)
        go_wp2_with (first | ((with_reducible refine gate_store (t := 5) (p := 20) rfl ?_);refine store_event (t := 5) (p := 20) (v := ?vo_w11) (w1 := (wr.setCell ⟨go9,(x4_1 : Int).toNat,none⟩ (.int .u8 (rd l0 x4_1)))) ?hg ?ho ?hn ?hr ?_;(case ho => rfl);(case hg => rfl);(case hn => rfl);(case hr => first | (go_simp;done) | (go_simp;rfl));intro w11 hw;have hg : wr.grownBy w11 (some go9) := (by rw [hw];exact HP10.2);have hp_ : Kd.R (Kd.int .u8) 5 w11 w.heap.size (fun _ => True) (.slice (some ⟨go9,0,none⟩) x3_1.length co9) y457 := (by rw [hw,Ny457.out];exact HP10.1);clear HP10;replace HO_3 := am_ (hp_);replace HB := am_ ((by rw [hw];exact below_set (HB.out) GB9.out : Below w.heap.size w w11));clear hg hw hp_))
        go_roundg k1
        case measure => have := HK1.out;omega
        case rel => exact ⟨(y457),(wrap64 (x4_1 + 1)),(by first | rfl | (simp;done) | (simp [*];done)),H',⟨by have := HK1.out;omega⟩,⟨zr HO_3⟩,⟨zl_ HB⟩⟩
       ·rw [if_neg c8] at H
        exact absurd H (by simp)
      ·rw [if_neg c7] at H
       exact absurd H (by simp)
     ·rw [if_neg c6] at H
      have c6b0 : decide (x4_1 < (l0.length : Int)) = false := decide_eq_false c6
      clear c6
      obtain rfl := Option.some.inj H
      go_wp2
      go_ret
      exact ⟨_,zt_,zr HO_3,zl_ HB⟩
  ·rw [if_neg c3] at H
   exact absurd H (by simp)
 ·rw [if_neg c2] at H
  exact absurd H (by simp)
set_option maxHeartbeats 8000000 in
set_option maxRecDepth 100000 in
theorem spec_l01In.calls (a0 : Int) (a1 : Int) (a2 : Int) (r : Bool) (w : World) (h : spec_l01In.f a0 a1 a2 = some r) :
  Calls Try.prog 48 #[.int .i64 a0,.int .i64 a1,.int .i64 a2] w fun e w' => e = .returned (.bool r) ∧ Drawn0 w w' := by
 have H : (if a0 ≥ a1 then (some (decide (a0 ≤ a2))) else (some false)) = some r := h
 clear h
 by_cases c4 : a0 ≥ a1
 ·rw [if_pos c4] at H
  have c4b0 : decide (a1 ≤ a0) = true := decide_eq_true c4
  clear c4
  obtain rfl := Option.some.inj H
  go_enter Try.func48,Try.ntmps48
  go_wp2
  go_ret
  exact ⟨by first | rfl | (simp;done) | (simp [*];done),by repeat (first | exact Drawn0.refl _ | apply Drawn0.step)⟩
 ·rw [if_neg c4] at H
  have c4b0 : decide (a1 ≤ a0) = false := decide_eq_false c4
  clear c4
  obtain rfl := Option.some.inj H
  go_enter Try.func48,Try.ntmps48
  go_wp2
  go_ret
  exact ⟨by first | rfl | (simp;done) | (simp [*];done),by repeat (first | exact Drawn0.refl _ | apply Drawn0.step)⟩
set_option maxHeartbeats 8000000 in
set_option maxRecDepth 100000 in
theorem spec_l02Of.calls (k : Nat) (a0 : ByteArray) (r : Int) (w : World) (h : spec_l02Of.f k a0 = some r) :
  Calls Try.prog 86 #[.string a0] w fun e w' => e = .returned (.int .i64 r) ∧ Drawn0 w w' := by
 have H : (spec_l02Of.l0 k a0 0 0) = some r := h
 clear h
 have H' := am_ H
 clear H
 go_enter Try.func86,Try.ntmps86
 go_wp2
 go_loopg [3,4] k (fun kq v3 v4 w' => ∃ (x3_1 : Int) (x4_1 : Int),v3 = .int .i64 x3_1 ∧ v4 = .int .i64 x4_1 ∧ Aside0 (spec_l02Of.l0 kq a0 x3_1 x4_1 = some r) ∧ Aside0 (kq ≤ k) ∧ Drawn0 w w')
 case atStart => exact ⟨(0),(0),(by first | rfl | (simp;done) | (simp [*];done)),(by first | rfl | (simp;done) | (simp [*];done)),H',⟨Nat.le_refl _⟩,by repeat (first | exact Drawn0.refl _ | apply Drawn0.step)⟩
 case round =>
  clear H'
  obtain ⟨x3_1,x4_1,rfl,rfl,HA,HK1,⟨m1,rfl⟩⟩ := hrel
  cases gk with
  | zero => exact absurd HA.out (by simp [spec_l02Of.l0])
  | succ k1 =>
   have H := HA.out
   clear HA
   simp only [spec_l02Of.l0] at H
   by_cases c2 : x4_1 < (a0.size : Int)
   ·rw [if_pos c2] at H
    have c2b0 : decide (x4_1 < (a0.size : Int)) = true := decide_eq_true c2
    clear c2
    by_cases c3 : 0 ≤ x4_1
    ·rw [if_pos c3] at H
     have c3b0 : decide (0 ≤ x4_1) = true := decide_eq_true c3
     clear c3
     have H' := am_ H
     clear H
     have p4 : 0 ≤ (x4_1 : Int) := zo_
     have q4 : x4_1 < (a0.size : Int) := zo_
     have hx4 := bt_at a0 x4_1
     replace p4 := eq_true p4
     replace q4 := eq_true q4
     go_wp2
     go_roundg k1
     case measure => have := HK1.out;omega
     case rel => exact ⟨(wrap64 ((wrap64 (x3_1 * 256)) + (wrap64 (bt a0 x4_1)))),(wrap64 (x4_1 + 1)),(by first | rfl | (simp;done) | (simp [*];done)),(by first | rfl | (simp;done) | (simp [*];done)),H',⟨by have := HK1.out;omega⟩,by repeat (first | exact Drawn0.refl _ | apply Drawn0.step)⟩
    ·rw [if_neg c3] at H
     exact absurd H (by simp)
   ·rw [if_neg c2] at H
    have c2b0 : decide (x4_1 < (a0.size : Int)) = false := decide_eq_false c2
    clear c2
    obtain rfl := Option.some.inj H
    go_wp2
    go_ret
    exact ⟨by first | rfl | (simp;done) | (simp [*];done),by repeat (first | exact Drawn0.refl _ | apply Drawn0.step)⟩
set_option maxHeartbeats 8000000 in
set_option maxRecDepth 100000 in
theorem spec_l02ReadList.calls (k : Nat) (a0 : ByteArray) (r1 : List ByteArray) (r2 : Bool) (w : World) (h : spec_l02ReadList.f k a0 = some (r1,r2)) :
  Calls Try.prog 72 #[.string a0] w fun e w' => ∃ v0_ : Value,e = .returned (.tuple #[v0_,.bool r2]) ∧ Kd.R Kd.string 9 w' w.heap.size (fun _ => True) v0_ r1 ∧ Below w.heap.size w w' := by
 have HB := am_ (Below.refl w.heap.size w)
 have H : ((some (([] : List ByteArray) : List ByteArray)).bind fun y399 => (if a0.toList = ([] : List UInt8) then (spec_l02ReadList.j0 k a0 y399 true) else (if 0 < (a0.size : Int) then (spec_l02ReadList.j0 k a0 y399 (decide ((bt a0 0) > 100))) else (none)))) = some (r1,r2) := h
 clear h
 obtain ⟨y399,hy399⟩ : ∃ y_ : List ByteArray,y_ = (([] : List ByteArray)) := ⟨_,rfl⟩
 replace H : (if a0.toList = ([] : List UInt8) then (spec_l02ReadList.j0 k a0 y399 true) else (if 0 < (a0.size : Int) then (spec_l02ReadList.j0 k a0 y399 (decide ((bt a0 0) > 100))) else (none))) = some (r1,r2) := by first | (rw [hy399];with_reducible exact H) | (have H2_ := (Option.bind_some _ _).symm.trans H;rw [hy399];with_reducible exact H2_) | (have H2_ := (Option.bind_some _ _).symm.trans H;with_reducible exact H2_) | with_reducible exact H | (rw [hy399];exact H) | exact H
 have Ny399 := am_ hy399
 clear hy399
 have HC2 := am_ H
 clear H
 go_enter Try.func72,Try.ntmps72
 go_upto_region 2 with (first | ((with_reducible refine gate_dst (N := 8) rfl ?_);(try (refine gate_guard (by rfl) ?_;dsimp only));refine Kd.R_lit Kd.string _ 9 ?hg (N := 8) ?hd (xs := ([] : List ByteArray)) (inner := []) (ok := fun _ => True) (okp := fun _ => True) ?hr ?hp (fun _ hk => hk) trivial (Below.refl _ _) (Nat.le_refl _) (by simp) ?_;(case hd => rfl);(case hg => rfl);(case hr => first | (go_simp;done) | (go_simp;rfl));(case hp => exact (Reps.none _ _));intro v400 w3 ho4 hb hg_ hnew_;clear hg_ hnew_;(first | rw [← Ny399.out] at ho4 | (simp only [Int.reduceToNat] at ho4;rw [← Ny399.out] at ho4));have HO401 := am_ (Kd.R_lower ho4 (below_size (zl_ HB)));replace HB := zs_ HB hb;clear hb ho4))
 (try simp only [Act.put,p1_,p2_,p3_])
 go_cut [15] (fun v15 wc => ∃ (kq : Nat) (x15_1 : Bool),v15 = .bool x15_1 ∧ Aside0 (spec_l02ReadList.j0 kq a0 y399 x15_1 = some (r1,r2)) ∧ Aside0 (kq ≤ k) ∧ Aside0 (Kd.R Kd.string 9 wc w.heap.size (fun _ => True) v400 y399) ∧ Aside0 (Below w.heap.size w wc))
 case first =>
  have H := HC2.out
  clear HC2
  by_cases c5 : a0.toList = ([] : List UInt8)
  ·rw [if_pos c5] at H
   have c5b0 : (a0.toList == ([] : List UInt8)) = true := beq_iff_eq.mpr c5
   have c5b1 : (a0.toList != ([] : List UInt8)) = false := bne_eq_false_iff_eq.mpr c5
   (try have c5e0 := c5b0;simp only [e3_,e4_] at c5e0)
   (try have c5e1 := c5b1;simp only [e3_,e4_] at c5e1)
   clear c5
   (first | rw [c5b0] | (simp only [i64_w,i32_w];rw [c5b0]) | skip)
   have H' := am_ H
   clear H
   go_wp2
   go_meet
   case rel => exact ⟨_,(true),(by first | rfl | (simp;done) | (simp [*];done)),H',⟨by first | omega | exact Nat.le_refl _⟩,⟨zr HO401⟩,⟨zl_ HB⟩⟩
  ·rw [if_neg c5] at H
   have c5b0 : (a0.toList == ([] : List UInt8)) = false := beq_eq_false_iff_ne.mpr c5
   have c5b1 : (a0.toList != ([] : List UInt8)) = true := bne_iff_ne.mpr c5
   (try have c5e0 := c5b0;simp only [e3_,e4_] at c5e0)
   (try have c5e1 := c5b1;simp only [e3_,e4_] at c5e1)
   (first | rw [c5b0] | (simp only [i64_w,i32_w];rw [c5b0]) | skip)
   by_cases c6 : 0 < (a0.size : Int)
   ·rw [if_pos c6] at H
    have c6b0 : decide (0 < (a0.size : Int)) = true := decide_eq_true c6
    have c6b1 : decide (0 < a0.size) = true := decide_eq_true (by omega)
    clear c6
    have H' := am_ H
    clear H
    have p7 : 0 ≤ (0 : Int) := (by omega)
    have q7 : 0 < a0.size := (by have : (0 : Int) < (a0.size : Int) := zo_;omega)
    have hx7 : ∀ h : 0 < a0.size,((a0[0]'h).toNat : Int) = bt a0 0 := bt_at a0 0
    clear p7
    have qi7 : (0 < (a0.size : Int)) = True := eq_true (zo_)
    replace q7 := eq_true q7
    go_wp2
    go_meet
    case rel => exact ⟨_,(decide ((bt a0 0) > 100)),(by first | rfl | (simp;done) | (simp [*];done)),H',⟨by first | omega | exact Nat.le_refl _⟩,⟨zr HO401⟩,⟨zl_ HB⟩⟩
   ·rw [if_neg c6] at H
    exact absurd H (by simp)
 case rest =>
  clear HC2
  try clear p2
  try clear c5
  try clear c5b0
  try clear c5b1
  try clear c6
  try clear c6b0
  try clear c6b1
  try clear c7
  try clear p7
  try clear q7
  try clear hx7
  try clear qi7
  try clear p7
  try clear q7
  obtain ⟨kq,x15_1,rfl,HA,HJ1,HO_4,HB⟩ := hcut
  cases kq with
  | zero => exact absurd HA.out (by simp [spec_l02ReadList.j0])
  | succ kj1 =>
   have H := HA.out
   clear HA
   simp only [spec_l02ReadList.j0] at H
   by_cases c8 : x15_1 = true
   ·subst c8
    have H1 : (some (y399,false)) = some (r1,r2) := by rw [if_pos rfl] at H;exact H
    clear H
    have H := H1
    clear H1
    simp only [Option.some.injEq,Prod.mk.injEq] at H
    obtain ⟨rfl,rfl⟩ := H
    go_wp2
    go_ret2
    exact ⟨_,zt_,zr HO_4,zl_ HB⟩
   ·replace c8 := Bool.eq_false_iff.mpr c8
    subst c8
    have H1 : (if 0 < (a0.size : Int) then (spec_l02ReadList.l0 kj1 a0 y399 1 (wrap64 (bt a0 0))) else (none)) = some (r1,r2) := by rw [if_neg (show ¬ (false = true) by decide)] at H;exact H
    clear H
    have H := H1
    clear H1
    by_cases c9 : 0 < (a0.size : Int)
    ·rw [if_pos c9] at H
     have c9b0 : decide (0 < (a0.size : Int)) = true := decide_eq_true c9
     have c9b1 : decide (0 < a0.size) = true := decide_eq_true (by omega)
     clear c9
     have H' := am_ H
     clear H
     have p10 : 0 ≤ (0 : Int) := (by omega)
     have q10 : 0 < a0.size := (by have : (0 : Int) < (a0.size : Int) := zo_;omega)
     have hx10 : ∀ h : 0 < a0.size,((a0[0]'h).toNat : Int) = bt a0 0 := bt_at a0 0
     clear p10
     have qi10 : (0 < (a0.size : Int)) = True := eq_true (zo_)
     replace q10 := eq_true q10
     go_wp2
     go_loopg [4,5,6] kj1 (fun kq v4 v5 v6 w' => ∃ (x4_2 : List ByteArray) (x5_2 : Int) (x6_2 : Int),v5 = .int .i64 x5_2 ∧ v6 = .int .i64 x6_2 ∧ Aside0 (spec_l02ReadList.l0 kq a0 x4_2 x5_2 x6_2 = some (r1,r2)) ∧ Aside0 (kq ≤ kj1) ∧ Aside0 (Kd.R Kd.string 9 w' w.heap.size (fun _ => True) v4 x4_2) ∧ Aside0 (Below w.heap.size w w'))
     case atStart => exact ⟨(y399),(1),(wrap64 (bt a0 0)),(by first | rfl | (simp;done) | (simp [*];done)),(by first | rfl | (simp;done) | (simp [*];done)),H',⟨Nat.le_refl _⟩,⟨zr HO_4⟩,⟨zl_ HB⟩⟩
     case round =>
      clear H'
      try clear p1
      try clear q1
      try clear hx1
      try clear qi1
      try clear p2
      try clear c5
      try clear c5b0
      try clear c5b1
      try clear c6
      try clear c6b0
      try clear c6b1
      try clear p6
      try clear c7
      try clear p7
      try clear q7
      try clear hx7
      try clear qi7
      try clear c8
      try clear c9
      try clear c9b0
      try clear c9b1
      try clear p10
      try clear q10
      try clear hx10
      try clear qi10
      try clear p10
      try clear p2
      try clear p7
      try clear q10
      try clear q7
      obtain ⟨x4_2,x5_2,x6_2,rfl,rfl,HA,HK2,HO_4,HB⟩ := hrel
      cases gk with
      | zero => exact absurd HA.out (by simp [spec_l02ReadList.l0])
      | succ k2 =>
       have H := HA.out
       clear HA
       simp only [spec_l02ReadList.l0] at H
       by_cases c11 : x6_2 > 0
       ·rw [if_pos c11] at H
        have c11b0 : decide (0 < x6_2) = true := decide_eq_true c11
        clear c11
        by_cases c12 : (wrap64 (x5_2 + 2)) > (a0.size : Int)
        ·rw [if_pos c12] at H
         have c12b0 : decide ((a0.size : Int) < (wrap64 (x5_2 + 2))) = true := decide_eq_true c12
         clear c12
         obtain ⟨y405,hy405⟩ : ∃ y_ : List ByteArray,y_ = (([] : List ByteArray)) := ⟨_,rfl⟩
         replace H : (some (y405,false)) = some (r1,r2) := by first | (rw [hy405];with_reducible exact H) | (have H2_ := (Option.bind_some _ _).symm.trans H;rw [hy405];with_reducible exact H2_) | (have H2_ := (Option.bind_some _ _).symm.trans H;with_reducible exact H2_) | with_reducible exact H | (rw [hy405];exact H) | exact H
         have Ny405 := am_ hy405
         clear hy405
         simp only [Option.some.injEq,Prod.mk.injEq] at H
         obtain ⟨rfl,rfl⟩ := H
         go_wp2_with (first | ((with_reducible refine gate_dst (N := 29) rfl ?_);(try (refine gate_guard (by rfl) ?_;dsimp only));refine Kd.R_lit Kd.string _ 9 ?hg (N := 29) ?hd (xs := ([] : List ByteArray)) (inner := []) (ok := fun _ => True) (okp := fun _ => True) ?hr ?hp (fun _ hk => hk) trivial (Below.refl _ _) (Nat.le_refl _) (by simp) ?_;(case hd => rfl);(case hg => rfl);(case hr => first | (go_simp;done) | (go_simp;rfl));(case hp => exact (Reps.none _ _));intro v406 w13 ho14 hb hg_ hnew_;clear hg_ hnew_;(first | rw [← Ny405.out] at ho14 | (simp only [Int.reduceToNat] at ho14;rw [← Ny405.out] at ho14));have HO407 := am_ (Kd.R_lower (Kd.R_new' ho14 (Kd.R_lt (zr HO_4))) (below_size (zl_ HB)));replace HO_4 := am_ (Kd.R_elder' (zr HO_4) (Kd.R_base ho14) hb);replace HB := zs_ HB hb;clear hb ho14))
         go_ret2
         exact ⟨_,zt_,by (with_reducible repeat (first | apply r1_ | apply r2_ | apply r3_));exact Kd.R_mono HO407.out (fun _ hk => trivial),zl_ HB⟩
        ·rw [if_neg c12] at H
         have c12b0 : decide ((a0.size : Int) < (wrap64 (x5_2 + 2))) = false := decide_eq_false c12
         clear c12
         by_cases c15 : 0 ≤ x5_2
         ·rw [if_pos c15] at H
          have c15b0 := eq_true c15
          have c15b1 : decide (0 ≤ x5_2) = true := decide_eq_true c15
          clear c15
          by_cases c16 : x5_2 ≤ (wrap64 (x5_2 + 2))
          ·rw [if_pos c16] at H
           have c16b0 := eq_true c16
           have c16b1 : decide (x5_2 ≤ (wrap64 (x5_2 + 2))) = true := decide_eq_true c16
           by_cases c17 : (wrap64 (x5_2 + 2)) ≤ (a0.size : Int)
           ·rw [if_pos c17] at H
            have c17b0 := eq_true c17
            have c17b1 : decide ((wrap64 (x5_2 + 2)) ≤ (a0.size : Int)) = true := decide_eq_true c17
            replace H := Option.bind_eq_some_iff.mp H
            obtain ⟨t408,A180,H⟩ := H
            try dsimp only at H
            have A18 := am_ A180
            clear A180
            by_cases c19 : t408 > 20000
            ·rw [if_pos c19] at H
             have c19b0 : decide (20000 < t408) = true := decide_eq_true c19
             clear c19
             obtain ⟨y409,hy409⟩ : ∃ y_ : List ByteArray,y_ = (([] : List ByteArray)) := ⟨_,rfl⟩
             replace H : (some (y409,false)) = some (r1,r2) := by first | (rw [hy409];with_reducible exact H) | (have H2_ := (Option.bind_some _ _).symm.trans H;rw [hy409];with_reducible exact H2_) | (have H2_ := (Option.bind_some _ _).symm.trans H;with_reducible exact H2_) | with_reducible exact H | (rw [hy409];exact H) | exact H
             have Ny409 := am_ hy409
             clear hy409
             simp only [Option.some.injEq,Prod.mk.injEq] at H
             obtain ⟨rfl,rfl⟩ := H
             go_wp2_with (first | ((with_reducible refine gate_callee (f := 86) rfl ?_);refine zgl (some 35) Try.func86 #[.string (a0.extract (x5_2 : Int).toNat ((wrap64 (x5_2 + 2)) : Int).toNat)] ?_;(with_reducible refine (spec_l02Of.calls k2 (a0.extract (x5_2 : Int).toNat ((wrap64 (x5_2 + 2)) : Int).toNat) t408 _ A18.out).mono ?_);rintro e w' ⟨rfl,⟨nd,rfl⟩⟩;refine ⟨_,rfl,?_⟩) | ((with_reducible refine gate_dst (N := 47) rfl ?_);(try (refine gate_guard (by rfl) ?_;dsimp only));refine Kd.R_lit Kd.string _ 9 ?hg (N := 47) ?hd (xs := ([] : List ByteArray)) (inner := []) (ok := fun _ => True) (okp := fun _ => True) ?hr ?hp (fun _ hk => hk) trivial (Below.refl _ _) (Nat.le_refl _) (by simp) ?_;(case hd => rfl);(case hg => rfl);(case hr => first | (go_simp;done) | (go_simp;rfl));(case hp => exact (Reps.none _ _));intro v410 w20 ho21 hb hg_ hnew_;clear hg_ hnew_;(first | rw [← Ny409.out] at ho21 | (simp only [Int.reduceToNat] at ho21;rw [← Ny409.out] at ho21));have HO411 := am_ (Kd.R_lower (Kd.R_new' ho21 (Kd.R_lt (zr HO_4))) (below_size (zl_ HB)));replace HO_4 := am_ (Kd.R_elder' (zr HO_4) (Kd.R_base ho21) hb);replace HB := zs_ HB hb;clear hb ho21))
             go_ret2
             exact ⟨_,zt_,by (with_reducible repeat (first | apply r1_ | apply r2_ | apply r3_));exact Kd.R_mono HO411.out (fun _ hk => trivial),zl_ HB⟩
            ·rw [if_neg c19] at H
             have c19b0 : decide (20000 < t408) = false := decide_eq_false c19
             clear c19
             by_cases c22 : (wrap64 ((wrap64 (x5_2 + 2)) + t408)) > (a0.size : Int)
             ·rw [if_pos c22] at H
              have c22b0 : decide ((a0.size : Int) < (wrap64 ((wrap64 (x5_2 + 2)) + t408))) = true := decide_eq_true c22
              clear c22
              obtain ⟨y412,hy412⟩ : ∃ y_ : List ByteArray,y_ = (([] : List ByteArray)) := ⟨_,rfl⟩
              replace H : (some (y412,false)) = some (r1,r2) := by first | (rw [hy412];with_reducible exact H) | (have H2_ := (Option.bind_some _ _).symm.trans H;rw [hy412];with_reducible exact H2_) | (have H2_ := (Option.bind_some _ _).symm.trans H;with_reducible exact H2_) | with_reducible exact H | (rw [hy412];exact H) | exact H
              have Ny412 := am_ hy412
              clear hy412
              simp only [Option.some.injEq,Prod.mk.injEq] at H
              obtain ⟨rfl,rfl⟩ := H
              go_wp2_with (first | ((with_reducible refine gate_callee (f := 86) rfl ?_);refine zgl (some 35) Try.func86 #[.string (a0.extract (x5_2 : Int).toNat ((wrap64 (x5_2 + 2)) : Int).toNat)] ?_;(with_reducible refine (spec_l02Of.calls k2 (a0.extract (x5_2 : Int).toNat ((wrap64 (x5_2 + 2)) : Int).toNat) t408 _ A18.out).mono ?_);rintro e w' ⟨rfl,⟨nd,rfl⟩⟩;refine ⟨_,rfl,?_⟩) | ((with_reducible refine gate_dst (N := 47) rfl ?_);(try (refine gate_guard (by rfl) ?_;dsimp only));refine Kd.R_lit Kd.string _ 9 ?hg (N := 47) ?hd (xs := ([] : List ByteArray)) (inner := []) (ok := fun _ => True) (okp := fun _ => True) ?hr ?hp (fun _ hk => hk) trivial (Below.refl _ _) (Nat.le_refl _) (by simp) ?_;(case hd => rfl);(case hg => rfl);(case hr => first | (go_simp;done) | (go_simp;rfl));(case hp => exact (Reps.none _ _));intro v413 w23 ho24 hb hg_ hnew_;clear hg_ hnew_;(first | rw [← Ny412.out] at ho24 | (simp only [Int.reduceToNat] at ho24;rw [← Ny412.out] at ho24));have HO414 := am_ (Kd.R_lower (Kd.R_new' ho24 (Kd.R_lt (zr HO_4))) (below_size (zl_ HB)));replace HO_4 := am_ (Kd.R_elder' (zr HO_4) (Kd.R_base ho24) hb);replace HB := zs_ HB hb;clear hb ho24))
              go_ret2
              exact ⟨_,zt_,by (with_reducible repeat (first | apply r1_ | apply r2_ | apply r3_));exact Kd.R_mono HO414.out (fun _ hk => trivial),zl_ HB⟩
             ·rw [if_neg c22] at H
              have c22b0 : decide ((a0.size : Int) < (wrap64 ((wrap64 (x5_2 + 2)) + t408))) = false := decide_eq_false c22
              clear c22
              obtain ⟨ji25,hji25⟩ : ∃ j_ : Int,(wrap64 (x5_2 + 2)) = j_ := ⟨_,rfl⟩
              replace H : (if 0 ≤ (ji25) then (if (ji25) ≤ (wrap64 ((ji25) + t408)) then (if (wrap64 ((ji25) + t408)) ≤ (a0.size : Int) then (if x4_2.length < 8796093022208 then (spec_l02ReadList.l0 k2 a0 (x4_2 ++ [a0.extract ((ji25) : Int).toNat ((wrap64 ((ji25) + t408)) : Int).toNat]) (wrap64 (x5_2 + (wrap64 (2 + t408)))) (wrap64 (x6_2 - 1))) else (none)) else (none)) else (none)) else (none)) = some (r1,r2) := by first | (rw [hji25] at H;exact H) | (simp only [hji25] at H ⊢;exact H)
              (try rw [hji25] at c12b0)
              (try rw [hji25] at c16b0)
              (try rw [hji25] at c16b1)
              (try rw [hji25] at c16)
              (try rw [hji25] at c17b0)
              (try rw [hji25] at c17b1)
              (try rw [hji25] at c17)
              (try rw [hji25] at c22b0)
              (try rw [hji25] at A18)
              have hji25w : (IntKind.i64.wrap (x5_2 + 2)) = ji25 := (i64_w _).trans hji25
              by_cases c26 : 0 ≤ (ji25)
              ·rw [if_pos c26] at H
               have c26b0 := eq_true c26
               have c26b1 : decide (0 ≤ (ji25)) = true := decide_eq_true c26
               clear c26
               by_cases c27 : (ji25) ≤ (wrap64 ((ji25) + t408))
               ·rw [if_pos c27] at H
                have c27b0 := eq_true c27
                have c27b1 : decide ((ji25) ≤ (wrap64 ((ji25) + t408))) = true := decide_eq_true c27
                by_cases c28 : (wrap64 ((ji25) + t408)) ≤ (a0.size : Int)
                ·rw [if_pos c28] at H
                 have c28b0 := eq_true c28
                 have c28b1 : decide ((wrap64 ((ji25) + t408)) ≤ (a0.size : Int)) = true := decide_eq_true c28
                 by_cases c29 : x4_2.length < 8796093022208
                 ·rw [if_pos c29] at H
                  have LMc29 := am_ c29
                  clear c29
                  obtain ⟨y415,hy415⟩ : ∃ y_ : List ByteArray,y_ = (x4_2 ++ [a0.extract ((ji25) : Int).toNat ((wrap64 ((ji25) + t408)) : Int).toNat]) := ⟨_,rfl⟩
                  replace H : (spec_l02ReadList.l0 k2 a0 y415 (wrap64 (x5_2 + (wrap64 (2 + t408)))) (wrap64 (x6_2 - 1))) = some (r1,r2) := by first | (rw [hy415];with_reducible exact H) | (have H2_ := (Option.bind_some _ _).symm.trans H;rw [hy415];with_reducible exact H2_) | (have H2_ := (Option.bind_some _ _).symm.trans H;with_reducible exact H2_) | with_reducible exact H | (rw [hy415];exact H) | exact H
                  have Ny415 := am_ hy415
                  clear hy415
                  have H' := am_ H
                  clear H
                  go_wp2_with (first | ((with_reducible refine gate_callee (f := 86) rfl ?_);refine goesL_ (some 35) rfl rfl Try.func86 (by kernel_rfl) rfl #[.string (a0.extract (x5_2 : Int).toNat ((ji25) : Int).toNat)] rfl (by (try simp only [m1_,m2_,m3_]);first | done | (simp only [hji25];rfl) | rfl | (simp only [d1_,d2_];rfl)) ?_;(with_reducible refine (spec_l02Of.calls k2 (a0.extract (x5_2 : Int).toNat ((ji25) : Int).toNat) t408 _ A18.out).mono ?_);rintro e w' ⟨rfl,⟨nd,rfl⟩⟩;refine ⟨_,rfl,?_⟩) | ((with_reducible refine gate_builtin (b := .append) (xs := #[.tmp 48,.tmp 57]) rfl ?_);(try (refine gate_guard (by rfl) ?_;dsimp only));at_builtin;refine Kd.R_append Kd.string (w0 := w) w.heap.size rfl (.tmp 48) (.tmp 57) 22 9 (.string ⟨#[]⟩) 16 rfl Try.underlying22 info9 rfl (by decide) (by omega) u4 x4_2 (a0.extract ((ji25) : Int).toNat ((wrap64 ((ji25) + t408)) : Int).toNat) [.string (a0.extract ((ji25) : Int).toNat ((wrap64 ((ji25) + t408)) : Int).toNat)] (fun _ => True) (fun _ => False) rfl rfl ?aP (fun _ hk => hk.elim) ?aF ?aO ?aB ?aS ?aL ?_;(case aP => exact rfl);(case aB => exact (zl_ HB));(case aF => exact (fun _ _ => trivial));(case aO => exact (zr HO_4));(case aS => exact (below_size (zl_ HB)));(case aL => have := LMc29.out;omega);intro v416 w30 ho hb hg hat;rw [← Ny415.out] at ho;replace HB := am_ (hb);have HO417 := am_ (ho);clear HO_4;clear ho hb hg hat))
                  go_roundg k2
                  case measure => have := HJ1.out;have := HK2.out;omega
                  case rel => exact ⟨(y415),(wrap64 (x5_2 + (wrap64 (2 + t408)))),(wrap64 (x6_2 - 1)),(by first | rfl | (simp;done) | (simp [*];done)),(by first | rfl | (simp;done) | (simp [*];done)),H',⟨by have := HJ1.out;have := HK2.out;omega⟩,⟨zr HO417⟩,⟨zl_ HB⟩⟩
                 ·rw [if_neg c29] at H
                  exact absurd H (by simp)
                ·rw [if_neg c28] at H
                 exact absurd H (by simp)
               ·rw [if_neg c27] at H
                exact absurd H (by simp)
              ·rw [if_neg c26] at H
               exact absurd H (by simp)
           ·rw [if_neg c17] at H
            exact absurd H (by simp)
          ·rw [if_neg c16] at H
           exact absurd H (by simp)
         ·rw [if_neg c15] at H
          exact absurd H (by simp)
       ·rw [if_neg c11] at H
        have c11b0 : decide (0 < x6_2) = false := decide_eq_false c11
        clear c11
        by_cases c31 : x5_2 = (a0.size : Int)
        ·rw [if_pos c31] at H
         have c31b0 : (x5_2 == (a0.size : Int)) = true := beq_iff_eq.mpr c31
         have c31b1 : (x5_2 != (a0.size : Int)) = false := bne_eq_false_iff_eq.mpr c31
         clear c31
         simp only [Option.some.injEq,Prod.mk.injEq] at H
         obtain ⟨rfl,rfl⟩ := H
         go_wp2
         go_ret2
         exact ⟨_,zt_,zr HO_4,zl_ HB⟩
        ·rw [if_neg c31] at H
         have c31b0 : (x5_2 == (a0.size : Int)) = false := beq_eq_false_iff_ne.mpr c31
         have c31b1 : (x5_2 != (a0.size : Int)) = true := bne_iff_ne.mpr c31
         obtain ⟨y402,hy402⟩ : ∃ y_ : List ByteArray,y_ = (([] : List ByteArray)) := ⟨_,rfl⟩
         replace H : (some (y402,false)) = some (r1,r2) := by first | (rw [hy402];with_reducible exact H) | (have H2_ := (Option.bind_some _ _).symm.trans H;rw [hy402];with_reducible exact H2_) | (have H2_ := (Option.bind_some _ _).symm.trans H;with_reducible exact H2_) | with_reducible exact H | (rw [hy402];exact H) | exact H
         have Ny402 := am_ hy402
         clear hy402
         simp only [Option.some.injEq,Prod.mk.injEq] at H
         obtain ⟨rfl,rfl⟩ := H
         go_wp2_with (first | ((with_reducible refine gate_dst (N := 67) rfl ?_);(try (refine gate_guard (by rfl) ?_;dsimp only));refine Kd.R_lit Kd.string _ 9 ?hg (N := 67) ?hd (xs := ([] : List ByteArray)) (inner := []) (ok := fun _ => True) (okp := fun _ => True) ?hr ?hp (fun _ hk => hk) trivial (Below.refl _ _) (Nat.le_refl _) (by simp) ?_;(case hd => rfl);(case hg => rfl);(case hr => first | (go_simp;done) | (go_simp;rfl));(case hp => exact (Reps.none _ _));intro v403 w32 ho33 hb hg_ hnew_;clear hg_ hnew_;(first | rw [← Ny402.out] at ho33 | (simp only [Int.reduceToNat] at ho33;rw [← Ny402.out] at ho33));have HO404 := am_ (Kd.R_lower (Kd.R_new' ho33 (Kd.R_lt (zr HO_4))) (below_size (zl_ HB)));replace HB := zs_ HB hb;clear hb ho33))
         go_ret2
         exact ⟨_,zt_,by (with_reducible repeat (first | apply r1_ | apply r2_ | apply r3_));exact Kd.R_mono HO404.out (fun _ hk => trivial),zl_ HB⟩
    ·rw [if_neg c9] at H
     exact absurd H (by simp)
set_option maxHeartbeats 8000000 in
set_option maxRecDepth 100000 in
theorem spec_MessageOK.calls (k : Nat) (a0_0 : Int) (a0_1 : Int) (a0_2 : Int) (a0_3 : Int) (a0_4 : ByteArray) (a0_5 : ByteArray) (a0_6 : ByteArray) (r : Bool) (w : World) (h : spec_MessageOK.f k a0_0 a0_1 a0_2 a0_3 a0_4 a0_5 a0_6 = some r) :
  Calls Try.prog 38 #[.agg #[.int .i64 a0_0,.int .i64 a0_1,.int .i64 a0_2,.int .i64 a0_3,.string a0_4,.string a0_5,.string a0_6]] w fun e w' => e = .returned (.bool r) ∧ Below w.heap.size w w' := by
 have hu63 := Try.underlying63
 have HB := am_ (Below.refl w.heap.size w)
 have H : ((spec_l01In.f a0_0 1 5).bind fun t195 => (if t195 = true then ((spec_l01In.f a0_1 0 20).bind fun t196 => (if t196 = true then ((spec_l01In.f a0_3 0 6).bind fun t197 => (if t197 = true then (if (a0_6.size : Int) = 8 then (spec_MessageOK.j0 k (decide ((a0_5.size : Int) > 20000)) a0_0 a0_1 a0_2 a0_3 a0_4 a0_5 a0_6) else (spec_MessageOK.j0 k true a0_0 a0_1 a0_2 a0_3 a0_4 a0_5 a0_6)) else (spec_MessageOK.j0 k true a0_0 a0_1 a0_2 a0_3 a0_4 a0_5 a0_6))) else (spec_MessageOK.j0 k true a0_0 a0_1 a0_2 a0_3 a0_4 a0_5 a0_6))) else (spec_MessageOK.j0 k true a0_0 a0_1 a0_2 a0_3 a0_4 a0_5 a0_6))) = some r := h
 clear h
 have HC2 := am_ H
 clear H
 go_enter Try.func38,Try.ntmps38
 go_upto_region 1 with (first | ((with_reducible refine gate_dst (N := 1) rfl ?_);(try (refine gate_guard (by rfl) ?_;dsimp only));refine zbx (N := 1) (cs := #[.int .i64 a0_0,.int .i64 a0_1,.int .i64 a0_2,.int .i64 a0_3,.string a0_4,.string a0_5,.string a0_6]) (t := 63) ?_;intro gb194 hg w3 hbox hb;have BK194 := am_ (hbox);have GW194 := zw_ HB hg;have GE194 := zw_ HB hg;replace HB := zs_ HB hb;clear hb hbox hg))
 (try simp only [Act.put,p1_,p2_,p3_])
 go_cut [30] (fun v30 wc => ∃ (kq : Nat) (x30_1 : Bool),v30 = .bool x30_1 ∧ Aside0 (spec_MessageOK.j0 kq x30_1 a0_0 a0_1 a0_2 a0_3 a0_4 a0_5 a0_6 = some r) ∧ Aside0 (kq ≤ k) ∧ Aside0 (wc.heap[gb194]? = some (.cells #[.int .i64 a0_0,.int .i64 a0_1,.int .i64 a0_2,.int .i64 a0_3,.string a0_4,.string a0_5,.string a0_6] 63 (0,0))) ∧ Aside0 (Below w.heap.size w wc))
 case first =>
  have H := HC2.out
  clear HC2
  replace H := Option.bind_eq_some_iff.mp H
  obtain ⟨t195,A40,H⟩ := H
  try dsimp only at H
  have A4 := am_ A40
  clear A40
  by_cases c5 : t195 = true
  ·subst c5
   have H1 : ((spec_l01In.f a0_1 0 20).bind fun t196 => (if t196 = true then ((spec_l01In.f a0_3 0 6).bind fun t197 => (if t197 = true then (if (a0_6.size : Int) = 8 then (spec_MessageOK.j0 k (decide ((a0_5.size : Int) > 20000)) a0_0 a0_1 a0_2 a0_3 a0_4 a0_5 a0_6) else (spec_MessageOK.j0 k true a0_0 a0_1 a0_2 a0_3 a0_4 a0_5 a0_6)) else (spec_MessageOK.j0 k true a0_0 a0_1 a0_2 a0_3 a0_4 a0_5 a0_6))) else (spec_MessageOK.j0 k true a0_0 a0_1 a0_2 a0_3 a0_4 a0_5 a0_6))) = some r := by rw [if_pos rfl] at H;exact H
   clear H
   have H := H1
   clear H1
   replace H := Option.bind_eq_some_iff.mp H
   obtain ⟨t196,A60,H⟩ := H
   try dsimp only at H
   have A6 := am_ A60
   clear A60
   by_cases c7 : t196 = true
   ·subst c7
    have H1 : ((spec_l01In.f a0_3 0 6).bind fun t197 => (if t197 = true then (if (a0_6.size : Int) = 8 then (spec_MessageOK.j0 k (decide ((a0_5.size : Int) > 20000)) a0_0 a0_1 a0_2 a0_3 a0_4 a0_5 a0_6) else (spec_MessageOK.j0 k true a0_0 a0_1 a0_2 a0_3 a0_4 a0_5 a0_6)) else (spec_MessageOK.j0 k true a0_0 a0_1 a0_2 a0_3 a0_4 a0_5 a0_6))) = some r := by rw [if_pos rfl] at H;exact H
    clear H
    have H := H1
    clear H1
    replace H := Option.bind_eq_some_iff.mp H
    obtain ⟨t197,A80,H⟩ := H
    try dsimp only at H
    have A8 := am_ A80
    clear A80
    by_cases c9 : t197 = true
    ·subst c9
     have H1 : (if (a0_6.size : Int) = 8 then (spec_MessageOK.j0 k (decide ((a0_5.size : Int) > 20000)) a0_0 a0_1 a0_2 a0_3 a0_4 a0_5 a0_6) else (spec_MessageOK.j0 k true a0_0 a0_1 a0_2 a0_3 a0_4 a0_5 a0_6)) = some r := by rw [if_pos rfl] at H;exact H
     clear H
     have H := H1
     clear H1
     by_cases c10 : (a0_6.size : Int) = 8
     ·rw [if_pos c10] at H
      have c10b0 : ((a0_6.size : Int) == 8) = true := beq_iff_eq.mpr c10
      have c10b1 : ((a0_6.size : Int) != 8) = false := bne_eq_false_iff_eq.mpr c10
      clear c10
      (first | rw [c10b0] | (simp only [i64_w,i32_w];rw [c10b0]) | skip)
      have H' := am_ H
      clear H
      obtain ⟨hcz11_0,hcz11_1,hcz11_2,hcz11_3,hcz11_4,hcz11_5,hcz11_6,hfz11_0,hfz11_1,hfz11_2,hfz11_3,hfz11_4,hfz11_5,hfz11_6⟩ := zc7 BK194
      go_wp2_with (first | ((with_reducible refine gate_callee (f := 48) rfl ?_);refine zgl (some 5) Try.func48 #[.int .i64 a0_0,.int .i64 1,.int .i64 5] ?_;(with_reducible refine (spec_l01In.calls a0_0 1 5 true _ A4.out).mono ?_);rintro e w' ⟨rfl,⟨nd,rfl⟩⟩;refine ⟨_,rfl,?_⟩) | (go_at_call 48;(with_reducible refine (spec_l01In.calls a0_1 0 20 true _ A6.out).mono ?_);rintro e w' ⟨rfl,⟨nd,rfl⟩⟩) | (go_at_call 48;(with_reducible refine (spec_l01In.calls a0_3 0 6 true _ A8.out).mono ?_);rintro e w' ⟨rfl,⟨nd,rfl⟩⟩))
      go_meet
      case rel => exact ⟨_,(decide ((a0_5.size : Int) > 20000)),(by first | rfl | (simp;done) | (simp [*];done)),H',⟨by first | omega | exact Nat.le_refl _⟩,⟨by (with_reducible repeat (first | apply k1_ | apply k2_ | apply k3_));exact BK194.out⟩,⟨zl_ HB⟩⟩
     ·rw [if_neg c10] at H
      have c10b0 : ((a0_6.size : Int) == 8) = false := beq_eq_false_iff_ne.mpr c10
      have c10b1 : ((a0_6.size : Int) != 8) = true := bne_iff_ne.mpr c10
      (first | rw [c10b0] | (simp only [i64_w,i32_w];rw [c10b0]) | skip)
      have H' := am_ H
      clear H
      obtain ⟨hcz12_0,hcz12_1,hcz12_2,hcz12_3,hcz12_4,hcz12_5,hcz12_6,hfz12_0,hfz12_1,hfz12_2,hfz12_3,hfz12_4,hfz12_5,hfz12_6⟩ := zc7 BK194
      go_wp2_with (first | ((with_reducible refine gate_callee (f := 48) rfl ?_);refine zgl (some 5) Try.func48 #[.int .i64 a0_0,.int .i64 1,.int .i64 5] ?_;(with_reducible refine (spec_l01In.calls a0_0 1 5 true _ A4.out).mono ?_);rintro e w' ⟨rfl,⟨nd,rfl⟩⟩;refine ⟨_,rfl,?_⟩) | (go_at_call 48;(with_reducible refine (spec_l01In.calls a0_1 0 20 true _ A6.out).mono ?_);rintro e w' ⟨rfl,⟨nd,rfl⟩⟩) | (go_at_call 48;(with_reducible refine (spec_l01In.calls a0_3 0 6 true _ A8.out).mono ?_);rintro e w' ⟨rfl,⟨nd,rfl⟩⟩))
      go_meet
      case rel => exact ⟨_,(true),(by first | rfl | (simp;done) | (simp [*];done)),H',⟨by first | omega | exact Nat.le_refl _⟩,⟨by (with_reducible repeat (first | apply k1_ | apply k2_ | apply k3_));exact BK194.out⟩,⟨zl_ HB⟩⟩
    ·replace c9 := Bool.eq_false_iff.mpr c9
     subst c9
     have H1 : (spec_MessageOK.j0 k true a0_0 a0_1 a0_2 a0_3 a0_4 a0_5 a0_6) = some r := by rw [if_neg (show ¬ (false = true) by decide)] at H;exact H
     clear H
     have H := H1
     clear H1
     have H' := am_ H
     clear H
     obtain ⟨hcz13_0,hcz13_1,hcz13_2,hcz13_3,hcz13_4,hcz13_5,hcz13_6,hfz13_0,hfz13_1,hfz13_2,hfz13_3,hfz13_4,hfz13_5,hfz13_6⟩ := zc7 BK194
     go_wp2_with (first | ((with_reducible refine gate_callee (f := 48) rfl ?_);refine zgl (some 5) Try.func48 #[.int .i64 a0_0,.int .i64 1,.int .i64 5] ?_;(with_reducible refine (spec_l01In.calls a0_0 1 5 true _ A4.out).mono ?_);rintro e w' ⟨rfl,⟨nd,rfl⟩⟩;refine ⟨_,rfl,?_⟩) | (go_at_call 48;(with_reducible refine (spec_l01In.calls a0_1 0 20 true _ A6.out).mono ?_);rintro e w' ⟨rfl,⟨nd,rfl⟩⟩) | (go_at_call 48;(with_reducible refine (spec_l01In.calls a0_3 0 6 false _ A8.out).mono ?_);rintro e w' ⟨rfl,⟨nd,rfl⟩⟩))
     go_meet
     case rel => exact ⟨_,(true),(by first | rfl | (simp;done) | (simp [*];done)),H',⟨by first | omega | exact Nat.le_refl _⟩,⟨by (with_reducible repeat (first | apply k1_ | apply k2_ | apply k3_));exact BK194.out⟩,⟨zl_ HB⟩⟩
   ·replace c7 := Bool.eq_false_iff.mpr c7
    subst c7
    have H1 : (spec_MessageOK.j0 k true a0_0 a0_1 a0_2 a0_3 a0_4 a0_5 a0_6) = some r := by rw [if_neg (show ¬ (false = true) by decide)] at H;exact H
    clear H
    have H := H1
    clear H1
    have H' := am_ H
    clear H
    obtain ⟨hcz14_0,hcz14_1,hcz14_2,hcz14_3,hcz14_4,hcz14_5,hcz14_6,hfz14_0,hfz14_1,hfz14_2,hfz14_3,hfz14_4,hfz14_5,hfz14_6⟩ := zc7 BK194
    go_wp2_with (first | ((with_reducible refine gate_callee (f := 48) rfl ?_);refine zgl (some 5) Try.func48 #[.int .i64 a0_0,.int .i64 1,.int .i64 5] ?_;(with_reducible refine (spec_l01In.calls a0_0 1 5 true _ A4.out).mono ?_);rintro e w' ⟨rfl,⟨nd,rfl⟩⟩;refine ⟨_,rfl,?_⟩) | (go_at_call 48;(with_reducible refine (spec_l01In.calls a0_1 0 20 false _ A6.out).mono ?_);rintro e w' ⟨rfl,⟨nd,rfl⟩⟩))
    go_meet
    case rel => exact ⟨_,(true),(by first | rfl | (simp;done) | (simp [*];done)),H',⟨by first | omega | exact Nat.le_refl _⟩,⟨by (with_reducible repeat (first | apply k1_ | apply k2_ | apply k3_));exact BK194.out⟩,⟨zl_ HB⟩⟩
  ·replace c5 := Bool.eq_false_iff.mpr c5
   subst c5
   have H1 : (spec_MessageOK.j0 k true a0_0 a0_1 a0_2 a0_3 a0_4 a0_5 a0_6) = some r := by rw [if_neg (show ¬ (false = true) by decide)] at H;exact H
   clear H
   have H := H1
   clear H1
   have H' := am_ H
   clear H
   obtain ⟨hcz15_0,hcz15_1,hcz15_2,hcz15_3,hcz15_4,hcz15_5,hcz15_6,hfz15_0,hfz15_1,hfz15_2,hfz15_3,hfz15_4,hfz15_5,hfz15_6⟩ := zc7 BK194
   go_wp2_with (first | ((with_reducible refine gate_callee (f := 48) rfl ?_);refine zgl (some 5) Try.func48 #[.int .i64 a0_0,.int .i64 1,.int .i64 5] ?_;(with_reducible refine (spec_l01In.calls a0_0 1 5 false _ A4.out).mono ?_);rintro e w' ⟨rfl,⟨nd,rfl⟩⟩;refine ⟨_,rfl,?_⟩))
   go_meet
   case rel => exact ⟨_,(true),(by first | rfl | (simp;done) | (simp [*];done)),H',⟨by first | omega | exact Nat.le_refl _⟩,⟨by (with_reducible repeat (first | apply k1_ | apply k2_ | apply k3_));exact BK194.out⟩,⟨zl_ HB⟩⟩
 case rest =>
  clear HC2
  try clear c1
  try clear p2
  try clear c3
  try clear c4
  try clear c5
  try clear c7
  try clear c9
  try clear c10
  try clear c10b0
  try clear c10b1
  try clear hcz11_0
  try clear hcz11_1
  try clear hcz11_2
  try clear hcz11_3
  try clear hcz11_4
  try clear hcz11_5
  try clear hcz11_6
  try clear hcz12_0
  try clear hcz12_1
  try clear hcz12_2
  try clear hcz12_3
  try clear hcz12_4
  try clear hcz12_5
  try clear hcz12_6
  try clear hcz13_0
  try clear hcz13_1
  try clear hcz13_2
  try clear hcz13_3
  try clear hcz13_4
  try clear hcz13_5
  try clear hcz13_6
  try clear hcz14_0
  try clear hcz14_1
  try clear hcz14_2
  try clear hcz14_3
  try clear hcz14_4
  try clear hcz14_5
  try clear hcz14_6
  try clear hcz15_0
  try clear hcz15_1
  try clear hcz15_2
  try clear hcz15_3
  try clear hcz15_4
  try clear hcz15_5
  try clear hcz15_6
  try clear hfz11_0
  try clear hfz11_1
  try clear hfz11_2
  try clear hfz11_3
  try clear hfz11_4
  try clear hfz11_5
  try clear hfz11_6
  try clear hfz12_0
  try clear hfz12_1
  try clear hfz12_2
  try clear hfz12_3
  try clear hfz12_4
  try clear hfz12_5
  try clear hfz12_6
  try clear hfz13_0
  try clear hfz13_1
  try clear hfz13_2
  try clear hfz13_3
  try clear hfz13_4
  try clear hfz13_5
  try clear hfz13_6
  try clear hfz14_0
  try clear hfz14_1
  try clear hfz14_2
  try clear hfz14_3
  try clear hfz14_4
  try clear hfz14_5
  try clear hfz14_6
  try clear hfz15_0
  try clear hfz15_1
  try clear hfz15_2
  try clear hfz15_3
  try clear hfz15_4
  try clear hfz15_5
  try clear hfz15_6
  obtain ⟨kq,x30_1,rfl,HA,HJ1,BK194,HB⟩ := hcut
  cases kq with
  | zero => exact absurd HA.out (by simp [spec_MessageOK.j0])
  | succ kj1 =>
   have H := HA.out
   clear HA
   simp only [spec_MessageOK.j0] at H
   by_cases c16 : x30_1 = true
   ·subst c16
    have H1 : (some false) = some r := by rw [if_pos rfl] at H;exact H
    clear H
    have H := H1
    clear H1
    obtain rfl := Option.some.inj H
    go_wp2
    go_ret
    exact ⟨zt_,zl_ HB⟩
   ·replace c16 := Bool.eq_false_iff.mpr c16
    subst c16
    have H1 : (if a0_0 = 1 then ((spec_l01In.f a0_2 1 8).bind fun t198 => (if t198 = true then (if (a0_4.size : Int) = 32 then (some (a0_5.toList != ([] : List UInt8))) else (some false)) else (some false))) else (if a0_0 = 2 then ((spec_l01In.f a0_2 1 8).bind fun t199 => (if t199 = true then (if (a0_4.size : Int) = 32 then (some (a0_5.toList == ([] : List UInt8))) else (some false)) else (some false))) else (if a0_0 = 3 then ((spec_l01In.f a0_2 1 8).bind fun t200 => (if t200 = true then (if (a0_4.size : Int) = 32 then (some (a0_5.toList == ([] : List UInt8))) else (some false)) else (some false))) else (if a0_2 = 0 then (some (a0_4.toList == ([] : List UInt8))) else (some false))))) = some r := by rw [if_neg (show ¬ (false = true) by decide)] at H;exact H
    clear H
    have H := H1
    clear H1
    by_cases c17 : a0_0 = 1
    ·rw [if_pos c17] at H
     have c17b0 : (a0_0 == 1) = true := beq_iff_eq.mpr c17
     have c17b1 : (a0_0 != 1) = false := bne_eq_false_iff_eq.mpr c17
     clear c17
     replace H := Option.bind_eq_some_iff.mp H
     obtain ⟨t198,A180,H⟩ := H
     try dsimp only at H
     have A18 := am_ A180
     clear A180
     by_cases c19 : t198 = true
     ·subst c19
      have H1 : (if (a0_4.size : Int) = 32 then (some (a0_5.toList != ([] : List UInt8))) else (some false)) = some r := by rw [if_pos rfl] at H;exact H
      clear H
      have H := H1
      clear H1
      by_cases c20 : (a0_4.size : Int) = 32
      ·rw [if_pos c20] at H
       have c20b0 : ((a0_4.size : Int) == 32) = true := beq_iff_eq.mpr c20
       have c20b1 : ((a0_4.size : Int) != 32) = false := bne_eq_false_iff_eq.mpr c20
       clear c20
       obtain rfl := Option.some.inj H
       obtain ⟨hcz21_0,hcz21_1,hcz21_2,hcz21_3,hcz21_4,hcz21_5,hcz21_6,hfz21_0,hfz21_1,hfz21_2,hfz21_3,hfz21_4,hfz21_5,hfz21_6⟩ := zc7 BK194
       go_wp2_with (first | ((with_reducible refine gate_callee (f := 48) rfl ?_);refine zgl (some 37) Try.func48 #[.int .i64 a0_2,.int .i64 1,.int .i64 8] ?_;(with_reducible refine (spec_l01In.calls a0_2 1 8 true _ A18.out).mono ?_);rintro e w' ⟨rfl,⟨nd,rfl⟩⟩;refine ⟨_,rfl,?_⟩))
       go_ret
       exact ⟨zt_,zl_ HB⟩
      ·rw [if_neg c20] at H
       have c20b0 : ((a0_4.size : Int) == 32) = false := beq_eq_false_iff_ne.mpr c20
       have c20b1 : ((a0_4.size : Int) != 32) = true := bne_iff_ne.mpr c20
       obtain rfl := Option.some.inj H
       obtain ⟨hcz22_0,hcz22_1,hcz22_2,hcz22_3,hcz22_4,hcz22_5,hcz22_6,hfz22_0,hfz22_1,hfz22_2,hfz22_3,hfz22_4,hfz22_5,hfz22_6⟩ := zc7 BK194
       go_wp2_with (first | ((with_reducible refine gate_callee (f := 48) rfl ?_);refine zgl (some 37) Try.func48 #[.int .i64 a0_2,.int .i64 1,.int .i64 8] ?_;(with_reducible refine (spec_l01In.calls a0_2 1 8 true _ A18.out).mono ?_);rintro e w' ⟨rfl,⟨nd,rfl⟩⟩;refine ⟨_,rfl,?_⟩))
       go_ret
       exact ⟨zt_,zl_ HB⟩
     ·replace c19 := Bool.eq_false_iff.mpr c19
      subst c19
      have H1 : (some false) = some r := by rw [if_neg (show ¬ (false = true) by decide)] at H;exact H
      clear H
      have H := H1
      clear H1
      obtain rfl := Option.some.inj H
      obtain ⟨hcz23_0,hcz23_1,hcz23_2,hcz23_3,hcz23_4,hcz23_5,hcz23_6,hfz23_0,hfz23_1,hfz23_2,hfz23_3,hfz23_4,hfz23_5,hfz23_6⟩ := zc7 BK194
      go_wp2_with (first | ((with_reducible refine gate_callee (f := 48) rfl ?_);refine zgl (some 37) Try.func48 #[.int .i64 a0_2,.int .i64 1,.int .i64 8] ?_;(with_reducible refine (spec_l01In.calls a0_2 1 8 false _ A18.out).mono ?_);rintro e w' ⟨rfl,⟨nd,rfl⟩⟩;refine ⟨_,rfl,?_⟩))
      go_ret
      exact ⟨zt_,zl_ HB⟩
    ·rw [if_neg c17] at H
     have c17b0 : (a0_0 == 1) = false := beq_eq_false_iff_ne.mpr c17
     have c17b1 : (a0_0 != 1) = true := bne_iff_ne.mpr c17
     by_cases c24 : a0_0 = 2
     ·rw [if_pos c24] at H
      have c24b0 : (a0_0 == 2) = true := beq_iff_eq.mpr c24
      have c24b1 : (a0_0 != 2) = false := bne_eq_false_iff_eq.mpr c24
      clear c24
      replace H := Option.bind_eq_some_iff.mp H
      obtain ⟨t199,A250,H⟩ := H
      try dsimp only at H
      have A25 := am_ A250
      clear A250
      by_cases c26 : t199 = true
      ·subst c26
       have H1 : (if (a0_4.size : Int) = 32 then (some (a0_5.toList == ([] : List UInt8))) else (some false)) = some r := by rw [if_pos rfl] at H;exact H
       clear H
       have H := H1
       clear H1
       by_cases c27 : (a0_4.size : Int) = 32
       ·rw [if_pos c27] at H
        have c27b0 : ((a0_4.size : Int) == 32) = true := beq_iff_eq.mpr c27
        have c27b1 : ((a0_4.size : Int) != 32) = false := bne_eq_false_iff_eq.mpr c27
        clear c27
        obtain rfl := Option.some.inj H
        obtain ⟨hcz28_0,hcz28_1,hcz28_2,hcz28_3,hcz28_4,hcz28_5,hcz28_6,hfz28_0,hfz28_1,hfz28_2,hfz28_3,hfz28_4,hfz28_5,hfz28_6⟩ := zc7 BK194
        go_wp2_with (first | ((with_reducible refine gate_callee (f := 48) rfl ?_);refine zgl (some 54) Try.func48 #[.int .i64 a0_2,.int .i64 1,.int .i64 8] ?_;(with_reducible refine (spec_l01In.calls a0_2 1 8 true _ A25.out).mono ?_);rintro e w' ⟨rfl,⟨nd,rfl⟩⟩;refine ⟨_,rfl,?_⟩))
        go_ret
        exact ⟨zt_,zl_ HB⟩
       ·rw [if_neg c27] at H
        have c27b0 : ((a0_4.size : Int) == 32) = false := beq_eq_false_iff_ne.mpr c27
        have c27b1 : ((a0_4.size : Int) != 32) = true := bne_iff_ne.mpr c27
        obtain rfl := Option.some.inj H
        obtain ⟨hcz29_0,hcz29_1,hcz29_2,hcz29_3,hcz29_4,hcz29_5,hcz29_6,hfz29_0,hfz29_1,hfz29_2,hfz29_3,hfz29_4,hfz29_5,hfz29_6⟩ := zc7 BK194
        go_wp2_with (first | ((with_reducible refine gate_callee (f := 48) rfl ?_);refine zgl (some 54) Try.func48 #[.int .i64 a0_2,.int .i64 1,.int .i64 8] ?_;(with_reducible refine (spec_l01In.calls a0_2 1 8 true _ A25.out).mono ?_);rintro e w' ⟨rfl,⟨nd,rfl⟩⟩;refine ⟨_,rfl,?_⟩))
        go_ret
        exact ⟨zt_,zl_ HB⟩
      ·replace c26 := Bool.eq_false_iff.mpr c26
       subst c26
       have H1 : (some false) = some r := by rw [if_neg (show ¬ (false = true) by decide)] at H;exact H
       clear H
       have H := H1
       clear H1
       obtain rfl := Option.some.inj H
       obtain ⟨hcz30_0,hcz30_1,hcz30_2,hcz30_3,hcz30_4,hcz30_5,hcz30_6,hfz30_0,hfz30_1,hfz30_2,hfz30_3,hfz30_4,hfz30_5,hfz30_6⟩ := zc7 BK194
       go_wp2_with (first | ((with_reducible refine gate_callee (f := 48) rfl ?_);refine zgl (some 54) Try.func48 #[.int .i64 a0_2,.int .i64 1,.int .i64 8] ?_;(with_reducible refine (spec_l01In.calls a0_2 1 8 false _ A25.out).mono ?_);rintro e w' ⟨rfl,⟨nd,rfl⟩⟩;refine ⟨_,rfl,?_⟩))
       go_ret
       exact ⟨zt_,zl_ HB⟩
     ·rw [if_neg c24] at H
      have c24b0 : (a0_0 == 2) = false := beq_eq_false_iff_ne.mpr c24
      have c24b1 : (a0_0 != 2) = true := bne_iff_ne.mpr c24
      by_cases c31 : a0_0 = 3
      ·rw [if_pos c31] at H
       have c31b0 : (a0_0 == 3) = true := beq_iff_eq.mpr c31
       have c31b1 : (a0_0 != 3) = false := bne_eq_false_iff_eq.mpr c31
       clear c31
       replace H := Option.bind_eq_some_iff.mp H
       obtain ⟨t200,A320,H⟩ := H
       try dsimp only at H
       have A32 := am_ A320
       clear A320
       by_cases c33 : t200 = true
       ·subst c33
        have H1 : (if (a0_4.size : Int) = 32 then (some (a0_5.toList == ([] : List UInt8))) else (some false)) = some r := by rw [if_pos rfl] at H;exact H
        clear H
        have H := H1
        clear H1
        by_cases c34 : (a0_4.size : Int) = 32
        ·rw [if_pos c34] at H
         have c34b0 : ((a0_4.size : Int) == 32) = true := beq_iff_eq.mpr c34
         have c34b1 : ((a0_4.size : Int) != 32) = false := bne_eq_false_iff_eq.mpr c34
         clear c34
         obtain rfl := Option.some.inj H
         obtain ⟨hcz35_0,hcz35_1,hcz35_2,hcz35_3,hcz35_4,hcz35_5,hcz35_6,hfz35_0,hfz35_1,hfz35_2,hfz35_3,hfz35_4,hfz35_5,hfz35_6⟩ := zc7 BK194
         go_wp2_with (first | ((with_reducible refine gate_callee (f := 48) rfl ?_);refine zgl (some 54) Try.func48 #[.int .i64 a0_2,.int .i64 1,.int .i64 8] ?_;(with_reducible refine (spec_l01In.calls a0_2 1 8 true _ A32.out).mono ?_);rintro e w' ⟨rfl,⟨nd,rfl⟩⟩;refine ⟨_,rfl,?_⟩))
         go_ret
         exact ⟨zt_,zl_ HB⟩
        ·rw [if_neg c34] at H
         have c34b0 : ((a0_4.size : Int) == 32) = false := beq_eq_false_iff_ne.mpr c34
         have c34b1 : ((a0_4.size : Int) != 32) = true := bne_iff_ne.mpr c34
         obtain rfl := Option.some.inj H
         obtain ⟨hcz36_0,hcz36_1,hcz36_2,hcz36_3,hcz36_4,hcz36_5,hcz36_6,hfz36_0,hfz36_1,hfz36_2,hfz36_3,hfz36_4,hfz36_5,hfz36_6⟩ := zc7 BK194
         go_wp2_with (first | ((with_reducible refine gate_callee (f := 48) rfl ?_);refine zgl (some 54) Try.func48 #[.int .i64 a0_2,.int .i64 1,.int .i64 8] ?_;(with_reducible refine (spec_l01In.calls a0_2 1 8 true _ A32.out).mono ?_);rintro e w' ⟨rfl,⟨nd,rfl⟩⟩;refine ⟨_,rfl,?_⟩))
         go_ret
         exact ⟨zt_,zl_ HB⟩
       ·replace c33 := Bool.eq_false_iff.mpr c33
        subst c33
        have H1 : (some false) = some r := by rw [if_neg (show ¬ (false = true) by decide)] at H;exact H
        clear H
        have H := H1
        clear H1
        obtain rfl := Option.some.inj H
        obtain ⟨hcz37_0,hcz37_1,hcz37_2,hcz37_3,hcz37_4,hcz37_5,hcz37_6,hfz37_0,hfz37_1,hfz37_2,hfz37_3,hfz37_4,hfz37_5,hfz37_6⟩ := zc7 BK194
        go_wp2_with (first | ((with_reducible refine gate_callee (f := 48) rfl ?_);refine zgl (some 54) Try.func48 #[.int .i64 a0_2,.int .i64 1,.int .i64 8] ?_;(with_reducible refine (spec_l01In.calls a0_2 1 8 false _ A32.out).mono ?_);rintro e w' ⟨rfl,⟨nd,rfl⟩⟩;refine ⟨_,rfl,?_⟩))
        go_ret
        exact ⟨zt_,zl_ HB⟩
      ·rw [if_neg c31] at H
       have c31b0 : (a0_0 == 3) = false := beq_eq_false_iff_ne.mpr c31
       have c31b1 : (a0_0 != 3) = true := bne_iff_ne.mpr c31
       by_cases c38 : a0_2 = 0
       ·rw [if_pos c38] at H
        have c38b0 : (a0_2 == 0) = true := beq_iff_eq.mpr c38
        have c38b1 : (a0_2 != 0) = false := bne_eq_false_iff_eq.mpr c38
        clear c38
        obtain rfl := Option.some.inj H
        obtain ⟨hcz39_0,hcz39_1,hcz39_2,hcz39_3,hcz39_4,hcz39_5,hcz39_6,hfz39_0,hfz39_1,hfz39_2,hfz39_3,hfz39_4,hfz39_5,hfz39_6⟩ := zc7 BK194
        go_wp2
        go_ret
        exact ⟨zt_,zl_ HB⟩
       ·rw [if_neg c38] at H
        have c38b0 : (a0_2 == 0) = false := beq_eq_false_iff_ne.mpr c38
        have c38b1 : (a0_2 != 0) = true := bne_iff_ne.mpr c38
        obtain rfl := Option.some.inj H
        obtain ⟨hcz40_0,hcz40_1,hcz40_2,hcz40_3,hcz40_4,hcz40_5,hcz40_6,hfz40_0,hfz40_1,hfz40_2,hfz40_3,hfz40_4,hfz40_5,hfz40_6⟩ := zc7 BK194
        go_wp2
        go_ret
        exact ⟨zt_,zl_ HB⟩
def spec_l02ReadMessage.T7 : Bool × List (List Nat × List Nat) := (true,[([],[]),([0],[0]),([1],[1]),([],[]),([3],[3]),([4],[4]),([],[]),([6],[6]),([7],[7]),([],[]),([9],[9]),([10],[10]),([],[]),([],[]),([12,13],[12,13]),([],[]),([],[]),([16],[16]),([],[]),([18],[18]),([],[]),([19,20],[19,20]),([15,17,21],[15,17,21]),([],[]),([],[]),([24],[24]),([],[]),([25,26],[25,26]),([23,27],[23,27]),([2,5,8,11,14,22,28],[2,5,8,11,14,22,28]),([],[]),([30,29,0,1,2,3,4,5,6,7,8,9,10,11,12,13,14,15,16,17,18,19,20,21,22,23,24,25,26,27,28,29,30],[29,30])])
def spec_l02ReadMessage.B7 : List Nat := [0,1,3,0,8,24,0,64,192,0,512,1536,0,0,12288,0,0,65536,0,262144,0,1835008,4161536,0,0,16777216,0,117440512,260046848,536870911,0,2147483647]
theorem spec_l02ReadMessage.tab7 : rtab .any (opsOf Try.f73 7) = spec_l02ReadMessage.T7 := by kernel_rfl
theorem spec_l02ReadMessage.bits7 : waitsOk spec_l02ReadMessage.T7.2 spec_l02ReadMessage.B7 = true := by kernel_rfl
set_option maxHeartbeats 8000000 in
set_option maxRecDepth 100000 in
theorem spec_l02ReadMessage.calls (k : Nat) (a0 : ByteArray) (r1 : Int) (r2 : Int) (r3 : Int) (r4 : Int) (r5 : ByteArray) (r6 : ByteArray) (r7 : ByteArray) (r8 : Bool) (w : World) (h : spec_l02ReadMessage.f k a0 = some (r1,r2,r3,r4,r5,r6,r7,r8)) :
  Calls Try.prog 73 #[.string a0] w fun e w' => e = .returned (.tuple #[.agg #[.int .i64 r1,.int .i64 r2,.int .i64 r3,.int .i64 r4,.string r5,.string r6,.string r7],.bool r8]) ∧ Below w.heap.size w w' := by
 have hu63 := Try.underlying63
 have HB := am_ (Below.refl w.heap.size w)
 have H : (if (a0.size : Int) < 7 then (spec_l02ReadMessage.j0 k a0 true) else (if 4 < (a0.size : Int) then (spec_l02ReadMessage.j0 k a0 (decide ((a0.size : Int) < (wrap64 (7 + (wrap64 (bt a0 4))))))) else (none))) = some (r1,r2,r3,r4,r5,r6,r7,r8) := h
 clear h
 have HC2 := am_ H
 clear H
 go_enter Try.func73,Try.ntmps73
 go_upto_region 1 with (first | ((with_reducible refine gate_dst (N := 2) rfl ?_);(try (refine gate_guard (by rfl) ?_;dsimp only));refine zbx (N := 2) (cs := #[.int .i64 0,.int .i64 0,.int .i64 0,.int .i64 0,.string ⟨#[]⟩,.string ⟨#[]⟩,.string ⟨#[]⟩]) (t := 63) ?_;intro gb418 hg w3 hbox hb;have BK418 := am_ (hbox);have GW418 := zw_ HB hg;have GE418 := zw_ HB hg;replace HB := zs_ HB hb;clear hb hbox hg))
 (try simp only [Act.put,p1_,p2_,p3_])
 go_cut [18] (fun v18 wc => ∃ (kq : Nat) (x18_1 : Bool),v18 = .bool x18_1 ∧ Aside0 (spec_l02ReadMessage.j0 kq a0 x18_1 = some (r1,r2,r3,r4,r5,r6,r7,r8)) ∧ Aside0 (kq ≤ k) ∧ Aside0 (wc.heap[gb418]? = some (.cells #[.int .i64 0,.int .i64 0,.int .i64 0,.int .i64 0,.string ⟨#[]⟩,.string ⟨#[]⟩,.string ⟨#[]⟩] 63 (0,0))) ∧ Aside0 (Below w.heap.size w wc))
 case first =>
  have H := HC2.out
  clear HC2
  by_cases c4 : (a0.size : Int) < 7
  ·rw [if_pos c4] at H
   have c4b0 : decide ((a0.size : Int) < 7) = true := decide_eq_true c4
   have c4b1 : decide (a0.size < 7) = true := decide_eq_true (by omega)
   clear c4
   (first | rw [c4b0] | (simp only [i64_w,i32_w];rw [c4b0]) | skip)
   have H' := am_ H
   clear H
   go_wp2
   go_meet
   case rel => exact ⟨_,(true),(by first | rfl | (simp;done) | (simp [*];done)),H',⟨by first | omega | exact Nat.le_refl _⟩,⟨by (with_reducible repeat (first | apply k1_ | apply k2_ | apply k3_));exact BK418.out⟩,⟨zl_ HB⟩⟩
  ·rw [if_neg c4] at H
   have c4b0 : decide ((a0.size : Int) < 7) = false := decide_eq_false c4
   have c4b1 : decide (a0.size < 7) = false := decide_eq_false (by omega)
   clear c4
   (first | rw [c4b0] | (simp only [i64_w,i32_w];rw [c4b0]) | skip)
   by_cases c5 : 4 < (a0.size : Int)
   ·rw [if_pos c5] at H
    have c5b0 : decide (4 < (a0.size : Int)) = true := decide_eq_true c5
    have c5b1 : decide (4 < a0.size) = true := decide_eq_true (by omega)
    clear c5
    have H' := am_ H
    clear H
    have p6 : 0 ≤ (4 : Int) := (by omega)
    have q6 : 4 < a0.size := (by have : (4 : Int) < (a0.size : Int) := zo_;omega)
    have hx6 : ∀ h : 4 < a0.size,((a0[4]'h).toNat : Int) = bt a0 4 := bt_at a0 4
    clear p6
    have qi6 : (4 < (a0.size : Int)) = True := eq_true (zo_)
    replace q6 := eq_true q6
    go_wp2
    go_meet
    case rel => exact ⟨_,(decide ((a0.size : Int) < (wrap64 (7 + (wrap64 (bt a0 4)))))),(by first | rfl | (simp;done) | (simp [*];done)),H',⟨by first | omega | exact Nat.le_refl _⟩,⟨by (with_reducible repeat (first | apply k1_ | apply k2_ | apply k3_));exact BK418.out⟩,⟨zl_ HB⟩⟩
   ·rw [if_neg c5] at H
    exact absurd H (by simp)
 case rest =>
  clear HC2
  try clear p2
  try clear c4
  try clear c4b0
  try clear c4b1
  try clear c5
  try clear c5b0
  try clear c5b1
  try clear p6
  try clear q6
  try clear hx6
  try clear qi6
  try clear p6
  try clear q6
  obtain ⟨kq,x18_1,rfl,HA,HJ1,BK418,HB⟩ := hcut
  cases kq with
  | zero => exact absurd HA.out (by simp [spec_l02ReadMessage.j0])
  | succ kj1 =>
   have H := HA.out
   clear HA
   simp only [spec_l02ReadMessage.j0] at H
   by_cases c7 : x18_1 = true
   ·subst c7
    have H1 : (some (0,0,0,0,(⟨#[]⟩ : ByteArray),(⟨#[]⟩ : ByteArray),(⟨#[]⟩ : ByteArray),false)) = some (r1,r2,r3,r4,r5,r6,r7,r8) := by rw [if_pos rfl] at H;exact H
    clear H
    have H := H1
    clear H1
    simp only [Option.some.injEq,Prod.mk.injEq] at H
    obtain ⟨rfl,rfl,rfl,rfl,rfl,rfl,rfl,rfl⟩ := H
    obtain ⟨hcz8_0,hcz8_1,hcz8_2,hcz8_3,hcz8_4,hcz8_5,hcz8_6,hfz8_0,hfz8_1,hfz8_2,hfz8_3,hfz8_4,hfz8_5,hfz8_6⟩ := zc7 BK418
    go_wp2
    refine bodyPost_ret (results_ct rfl _ _ gb418 63 #[.int .i64 0,.int .i64 0,.int .i64 0,.int .i64 0,.string ⟨#[]⟩,.string ⟨#[]⟩,.string ⟨#[]⟩] (0,0) _ rfl (zq BK418) Try.underlying63 rfl (by kernel_rfl)) rfl ?_
    exact ⟨zt_,zl_ HB⟩
   ·replace c7 := Bool.eq_false_iff.mpr c7
    subst c7
    have H1 : (if 4 < (a0.size : Int) then (if 0 ≤ (wrap64 (5 + (wrap64 (bt a0 4)))) then (if (wrap64 (5 + (wrap64 (bt a0 4)))) ≤ (wrap64 ((wrap64 (5 + (wrap64 (bt a0 4)))) + 2)) then (if (wrap64 ((wrap64 (5 + (wrap64 (bt a0 4)))) + 2)) ≤ (a0.size : Int) then ((spec_l02Of.f kj1 (a0.extract ((wrap64 (5 + (wrap64 (bt a0 4)))) : Int).toNat ((wrap64 ((wrap64 (5 + (wrap64 (bt a0 4)))) + 2)) : Int).toNat)).bind fun t419 => (if (a0.size : Int) = (wrap64 ((wrap64 ((wrap64 ((wrap64 (5 + (wrap64 (bt a0 4)))) + 2)) + t419)) + 8)) then (if 0 < (a0.size : Int) then (if 1 < (a0.size : Int) then (if 2 < (a0.size : Int) then (if 3 < (a0.size : Int) then (if 5 ≤ (wrap64 (5 + (wrap64 (bt a0 4)))) then (if (wrap64 (5 + (wrap64 (bt a0 4)))) ≤ (a0.size : Int) then (if 0 ≤ (wrap64 ((wrap64 (5 + (wrap64 (bt a0 4)))) + 2)) then (if (wrap64 ((wrap64 (5 + (wrap64 (bt a0 4)))) + 2)) ≤ (wrap64 ((wrap64 ((wrap64 (5 + (wrap64 (bt a0 4)))) + 2)) + t419)) then (if (wrap64 ((wrap64 ((wrap64 (5 + (wrap64 (bt a0 4)))) + 2)) + t419)) ≤ (a0.size : Int) then (if 0 ≤ (wrap64 ((wrap64 ((wrap64 (5 + (wrap64 (bt a0 4)))) + 2)) + t419)) then ((spec_MessageOK.f kj1 (wrap64 (bt a0 0)) (wrap64 (bt a0 1)) (wrap64 (bt a0 2)) (wrap64 (bt a0 3)) (a0.extract 5 ((wrap64 (5 + (wrap64 (bt a0 4)))) : Int).toNat) (a0.extract ((wrap64 ((wrap64 (5 + (wrap64 (bt a0 4)))) + 2)) : Int).toNat ((wrap64 ((wrap64 ((wrap64 (5 + (wrap64 (bt a0 4)))) + 2)) + t419)) : Int).toNat) (a0.extract ((wrap64 ((wrap64 ((wrap64 (5 + (wrap64 (bt a0 4)))) + 2)) + t419)) : Int).toNat a0.size)).bind fun t421 => (some (wrap64 (bt a0 0),wrap64 (bt a0 1),wrap64 (bt a0 2),wrap64 (bt a0 3),a0.extract 5 ((wrap64 (5 + (wrap64 (bt a0 4)))) : Int).toNat,a0.extract ((wrap64 ((wrap64 (5 + (wrap64 (bt a0 4)))) + 2)) : Int).toNat ((wrap64 ((wrap64 ((wrap64 (5 + (wrap64 (bt a0 4)))) + 2)) + t419)) : Int).toNat,a0.extract ((wrap64 ((wrap64 ((wrap64 (5 + (wrap64 (bt a0 4)))) + 2)) + t419)) : Int).toNat a0.size,t421))) else (none)) else (none)) else (none)) else (none)) else (none)) else (none)) else (none)) else (none)) else (none)) else (none)) else (some (0,0,0,0,(⟨#[]⟩ : ByteArray),(⟨#[]⟩ : ByteArray),(⟨#[]⟩ : ByteArray),false)))) else (none)) else (none)) else (none)) else (none)) = some (r1,r2,r3,r4,r5,r6,r7,r8) := by rw [if_neg (show ¬ (false = true) by decide)] at H;exact H
    clear H
    have H := H1
    clear H1
    by_cases c9 : 4 < (a0.size : Int)
    ·rw [if_pos c9] at H
     have c9b0 : decide (4 < (a0.size : Int)) = true := decide_eq_true c9
     have c9b1 : decide (4 < a0.size) = true := decide_eq_true (by omega)
     clear c9
     obtain ⟨ji11,hji11⟩ : ∃ j_ : Int,(wrap64 (5 + (wrap64 (bt a0 4)))) = j_ := ⟨_,rfl⟩
     replace H : (if 0 ≤ (ji11) then (if (ji11) ≤ (wrap64 ((ji11) + 2)) then (if (wrap64 ((ji11) + 2)) ≤ (a0.size : Int) then ((spec_l02Of.f kj1 (a0.extract ((ji11) : Int).toNat ((wrap64 ((ji11) + 2)) : Int).toNat)).bind fun t419 => (if (a0.size : Int) = (wrap64 ((wrap64 ((wrap64 ((ji11) + 2)) + t419)) + 8)) then (if 0 < (a0.size : Int) then (if 1 < (a0.size : Int) then (if 2 < (a0.size : Int) then (if 3 < (a0.size : Int) then (if 5 ≤ (ji11) then (if (ji11) ≤ (a0.size : Int) then (if 0 ≤ (wrap64 ((ji11) + 2)) then (if (wrap64 ((ji11) + 2)) ≤ (wrap64 ((wrap64 ((ji11) + 2)) + t419)) then (if (wrap64 ((wrap64 ((ji11) + 2)) + t419)) ≤ (a0.size : Int) then (if 0 ≤ (wrap64 ((wrap64 ((ji11) + 2)) + t419)) then ((spec_MessageOK.f kj1 (wrap64 (bt a0 0)) (wrap64 (bt a0 1)) (wrap64 (bt a0 2)) (wrap64 (bt a0 3)) (a0.extract 5 ((ji11) : Int).toNat) (a0.extract ((wrap64 ((ji11) + 2)) : Int).toNat ((wrap64 ((wrap64 ((ji11) + 2)) + t419)) : Int).toNat) (a0.extract ((wrap64 ((wrap64 ((ji11) + 2)) + t419)) : Int).toNat a0.size)).bind fun t421 => (some (wrap64 (bt a0 0),wrap64 (bt a0 1),wrap64 (bt a0 2),wrap64 (bt a0 3),a0.extract 5 ((ji11) : Int).toNat,a0.extract ((wrap64 ((ji11) + 2)) : Int).toNat ((wrap64 ((wrap64 ((ji11) + 2)) + t419)) : Int).toNat,a0.extract ((wrap64 ((wrap64 ((ji11) + 2)) + t419)) : Int).toNat a0.size,t421))) else (none)) else (none)) else (none)) else (none)) else (none)) else (none)) else (none)) else (none)) else (none)) else (none)) else (some (0,0,0,0,(⟨#[]⟩ : ByteArray),(⟨#[]⟩ : ByteArray),(⟨#[]⟩ : ByteArray),false)))) else (none)) else (none)) else (none)) = some (r1,r2,r3,r4,r5,r6,r7,r8) := by first | (rw [hji11] at H;exact H) | (simp only [hji11] at H ⊢;exact H)
     have hji11w : (IntKind.i64.wrap (5 + (wrap64 (bt a0 4)))) = ji11 := (i64_w _).trans hji11
     by_cases c12 : 0 ≤ (ji11)
     ·rw [if_pos c12] at H
      have c12b0 := eq_true c12
      have c12b1 : decide (0 ≤ (ji11)) = true := decide_eq_true c12
      clear c12
      by_cases c13 : (ji11) ≤ (wrap64 ((ji11) + 2))
      ·rw [if_pos c13] at H
       have c13b0 := eq_true c13
       have c13b1 : decide ((ji11) ≤ (wrap64 ((ji11) + 2))) = true := decide_eq_true c13
       by_cases c14 : (wrap64 ((ji11) + 2)) ≤ (a0.size : Int)
       ·rw [if_pos c14] at H
        have c14b0 := eq_true c14
        have c14b1 : decide ((wrap64 ((ji11) + 2)) ≤ (a0.size : Int)) = true := decide_eq_true c14
        replace H := Option.bind_eq_some_iff.mp H
        obtain ⟨t419,A150,H⟩ := H
        try dsimp only at H
        have A15 := am_ A150
        clear A150
        by_cases c16 : (a0.size : Int) = (wrap64 ((wrap64 ((wrap64 ((ji11) + 2)) + t419)) + 8))
        ·rw [if_pos c16] at H
         have c16b0 : ((a0.size : Int) == (wrap64 ((wrap64 ((wrap64 ((ji11) + 2)) + t419)) + 8))) = true := beq_iff_eq.mpr c16
         have c16b1 : ((a0.size : Int) != (wrap64 ((wrap64 ((wrap64 ((ji11) + 2)) + t419)) + 8))) = false := bne_eq_false_iff_eq.mpr c16
         clear c16
         by_cases c17 : 0 < (a0.size : Int)
         ·rw [if_pos c17] at H
          have c17b0 : decide (0 < (a0.size : Int)) = true := decide_eq_true c17
          have c17b1 : decide (0 < a0.size) = true := decide_eq_true (by omega)
          clear c17
          by_cases c19 : 1 < (a0.size : Int)
          ·rw [if_pos c19] at H
           have c19b0 : decide (1 < (a0.size : Int)) = true := decide_eq_true c19
           have c19b1 : decide (1 < a0.size) = true := decide_eq_true (by omega)
           clear c19
           by_cases c21 : 2 < (a0.size : Int)
           ·rw [if_pos c21] at H
            have c21b0 : decide (2 < (a0.size : Int)) = true := decide_eq_true c21
            have c21b1 : decide (2 < a0.size) = true := decide_eq_true (by omega)
            clear c21
            by_cases c23 : 3 < (a0.size : Int)
            ·rw [if_pos c23] at H
             have c23b0 : decide (3 < (a0.size : Int)) = true := decide_eq_true c23
             have c23b1 : decide (3 < a0.size) = true := decide_eq_true (by omega)
             clear c23
             by_cases c25 : 5 ≤ (ji11)
             ·rw [if_pos c25] at H
              have c25b0 := eq_true c25
              have c25b1 : decide (5 ≤ (ji11)) = true := decide_eq_true c25
              clear c25
              by_cases c26 : (ji11) ≤ (a0.size : Int)
              ·rw [if_pos c26] at H
               have c26b0 := eq_true c26
               have c26b1 : decide ((ji11) ≤ (a0.size : Int)) = true := decide_eq_true c26
               clear c26
               obtain ⟨ji27,hji27⟩ : ∃ j_ : Int,(wrap64 ((ji11) + 2)) = j_ := ⟨_,rfl⟩
               replace H : (if 0 ≤ (ji27) then (if (ji27) ≤ (wrap64 ((ji27) + t419)) then (if (wrap64 ((ji27) + t419)) ≤ (a0.size : Int) then (if 0 ≤ (wrap64 ((ji27) + t419)) then ((spec_MessageOK.f kj1 (wrap64 (bt a0 0)) (wrap64 (bt a0 1)) (wrap64 (bt a0 2)) (wrap64 (bt a0 3)) (a0.extract 5 ((ji11) : Int).toNat) (a0.extract ((ji27) : Int).toNat ((wrap64 ((ji27) + t419)) : Int).toNat) (a0.extract ((wrap64 ((ji27) + t419)) : Int).toNat a0.size)).bind fun t421 => (some (wrap64 (bt a0 0),wrap64 (bt a0 1),wrap64 (bt a0 2),wrap64 (bt a0 3),a0.extract 5 ((ji11) : Int).toNat,a0.extract ((ji27) : Int).toNat ((wrap64 ((ji27) + t419)) : Int).toNat,a0.extract ((wrap64 ((ji27) + t419)) : Int).toNat a0.size,t421))) else (none)) else (none)) else (none)) else (none)) = some (r1,r2,r3,r4,r5,r6,r7,r8) := by first | (rw [hji27] at H;exact H) | (simp only [hji27] at H ⊢;exact H)
               (try rw [hji27] at c13b0)
               (try rw [hji27] at c13b1)
               (try rw [hji27] at c13)
               (try rw [hji27] at c14b0)
               (try rw [hji27] at c14b1)
               (try rw [hji27] at c14)
               (try rw [hji27] at c16b0)
               (try rw [hji27] at c16b1)
               (try rw [hji27] at A15)
               have hji27w : (IntKind.i64.wrap ((ji11) + 2)) = ji27 := (i64_w _).trans hji27
               by_cases c28 : 0 ≤ (ji27)
               ·rw [if_pos c28] at H
                have c28b0 := eq_true c28
                have c28b1 : decide (0 ≤ (ji27)) = true := decide_eq_true c28
                clear c28
                by_cases c29 : (ji27) ≤ (wrap64 ((ji27) + t419))
                ·rw [if_pos c29] at H
                 have c29b0 := eq_true c29
                 have c29b1 : decide ((ji27) ≤ (wrap64 ((ji27) + t419))) = true := decide_eq_true c29
                 by_cases c30 : (wrap64 ((ji27) + t419)) ≤ (a0.size : Int)
                 ·rw [if_pos c30] at H
                  have c30b0 := eq_true c30
                  have c30b1 : decide ((wrap64 ((ji27) + t419)) ≤ (a0.size : Int)) = true := decide_eq_true c30
                  obtain ⟨ji31,hji31⟩ : ∃ j_ : Int,(wrap64 ((ji27) + t419)) = j_ := ⟨_,rfl⟩
                  replace H : (if 0 ≤ (ji31) then ((spec_MessageOK.f kj1 (wrap64 (bt a0 0)) (wrap64 (bt a0 1)) (wrap64 (bt a0 2)) (wrap64 (bt a0 3)) (a0.extract 5 ((ji11) : Int).toNat) (a0.extract ((ji27) : Int).toNat ((ji31) : Int).toNat) (a0.extract ((ji31) : Int).toNat a0.size)).bind fun t421 => (some (wrap64 (bt a0 0),wrap64 (bt a0 1),wrap64 (bt a0 2),wrap64 (bt a0 3),a0.extract 5 ((ji11) : Int).toNat,a0.extract ((ji27) : Int).toNat ((ji31) : Int).toNat,a0.extract ((ji31) : Int).toNat a0.size,t421))) else (none)) = some (r1,r2,r3,r4,r5,r6,r7,r8) := by first | (rw [hji31] at H;exact H) | (simp only [hji31] at H ⊢;exact H)
                  (try rw [hji31] at c16b0)
                  (try rw [hji31] at c16b1)
                  (try rw [hji31] at c29b0)
                  (try rw [hji31] at c29b1)
                  (try rw [hji31] at c29)
                  (try rw [hji31] at c30b0)
                  (try rw [hji31] at c30b1)
                  (try rw [hji31] at c30)
                  (try rw [hji31] at A15)
                  have hji31w : (IntKind.i64.wrap ((ji27) + t419)) = ji31 := (i64_w _).trans hji31
                  by_cases c32 : 0 ≤ (ji31)
                  ·rw [if_pos c32] at H
                   have c32b0 := eq_true c32
                   have c32b1 : decide (0 ≤ (ji31)) = true := decide_eq_true c32
                   clear c32
                   have c33b0 := eq_true (zo_ : (ji31) ≤ (a0.size : Int))
                   replace H := Option.bind_eq_some_iff.mp H
                   obtain ⟨t421,A340,H⟩ := H
                   try dsimp only at H
                   have A34 := am_ A340
                   clear A340
                   simp only [Option.some.injEq,Prod.mk.injEq] at H
                   obtain ⟨rfl,rfl,rfl,rfl,rfl,rfl,rfl,rfl⟩ := H
                   have p10 : 0 ≤ (4 : Int) := (by omega)
                   have q10 : 4 < a0.size := (by have : (4 : Int) < (a0.size : Int) := zo_;omega)
                   have hx10 : ∀ h : 4 < a0.size,((a0[4]'h).toNat : Int) = bt a0 4 := bt_at a0 4
                   clear p10
                   have qi10 : (4 < (a0.size : Int)) = True := eq_true (zo_)
                   replace q10 := eq_true q10
                   try go_wp2_with (first | ((with_reducible refine gate_callee (f := 86) rfl ?_);refine goesL_ (some 29) rfl rfl Try.func86 (by kernel_rfl) rfl #[.string (a0.extract ((ji11) : Int).toNat ((ji27) : Int).toNat)] rfl (by (try simp only [m1_,m2_,m3_]);first | done | (simp only [hji11,hji27];rfl) | rfl | (simp only [d1_,d2_];rfl)) ?_;(with_reducible refine (spec_l02Of.calls kj1 (a0.extract ((ji11) : Int).toNat ((ji27) : Int).toNat) t419 _ A15.out).mono ?_);rintro e w' ⟨rfl,⟨nd,rfl⟩⟩;refine ⟨_,rfl,?_⟩;(try (rw [drewN_self wc];generalize hq_ : World.drewN wc _ = wc;have n0_ : Aside0 (wc.heap[gb418]? = some (.cells #[.int .i64 0,.int .i64 0,.int .i64 0,.int .i64 0,.string ⟨#[]⟩,.string ⟨#[]⟩,.string ⟨#[]⟩] 63 (0,0))) := ⟨by rw [← hq_];exact (zk BK418)⟩;have n1_ : Aside0 (Below w.heap.size w wc) := ⟨by rw [← hq_];exact (zl_ HB)⟩;clear BK418 HB hq_;have BK418 := n0_;have HB := n1_;clear n0_ n1_));(try have hfu418_0 := blk_frozen BK418.out 0);(try have hcu418_0 : wc.cell? ⟨gb418,0,none⟩ = some (.int .i64 0) := (blk_cell BK418.out 0).trans rfl);(try have hfu418_1 := blk_frozen BK418.out 1);(try have hcu418_1 : wc.cell? ⟨gb418,1,none⟩ = some (.int .i64 0) := (blk_cell BK418.out 1).trans rfl);(try have hfu418_2 := blk_frozen BK418.out 2);(try have hcu418_2 : wc.cell? ⟨gb418,2,none⟩ = some (.int .i64 0) := (blk_cell BK418.out 2).trans rfl);(try have hfu418_3 := blk_frozen BK418.out 3);(try have hcu418_3 : wc.cell? ⟨gb418,3,none⟩ = some (.int .i64 0) := (blk_cell BK418.out 3).trans rfl);(try have hfu418_4 := blk_frozen BK418.out 4);(try have hcu418_4 : wc.cell? ⟨gb418,4,none⟩ = some (.string ⟨#[]⟩) := (blk_cell BK418.out 4).trans rfl);(try have hfu418_5 := blk_frozen BK418.out 5);(try have hcu418_5 : wc.cell? ⟨gb418,5,none⟩ = some (.string ⟨#[]⟩) := (blk_cell BK418.out 5).trans rfl);(try have hfu418_6 := blk_frozen BK418.out 6);(try have hcu418_6 : wc.cell? ⟨gb418,6,none⟩ = some (.string ⟨#[]⟩) := (blk_cell BK418.out 6).trans rfl)))
                   replace BK418 := am_ (blk_drew BK418.out)
                   replace HB := am_ (below_drew1 HB.out)
                   have p18 : 0 ≤ (0 : Int) := (by omega)
                   have q18 : 0 < a0.size := (by have : (0 : Int) < (a0.size : Int) := zo_;omega)
                   have hx18 : ∀ h : 0 < a0.size,((a0[0]'h).toNat : Int) = bt a0 0 := bt_at a0 0
                   clear p18
                   have qi18 : (0 < (a0.size : Int)) = True := eq_true (zo_)
                   replace q18 := eq_true q18
                   have p20 : 0 ≤ (1 : Int) := (by omega)
                   have q20 : 1 < a0.size := (by have : (1 : Int) < (a0.size : Int) := zo_;omega)
                   have hx20 : ∀ h : 1 < a0.size,((a0[1]'h).toNat : Int) = bt a0 1 := bt_at a0 1
                   clear p20
                   have qi20 : (1 < (a0.size : Int)) = True := eq_true (zo_)
                   replace q20 := eq_true q20
                   have p22 : 0 ≤ (2 : Int) := (by omega)
                   have q22 : 2 < a0.size := (by have : (2 : Int) < (a0.size : Int) := zo_;omega)
                   have hx22 : ∀ h : 2 < a0.size,((a0[2]'h).toNat : Int) = bt a0 2 := bt_at a0 2
                   clear p22
                   have qi22 : (2 < (a0.size : Int)) = True := eq_true (zo_)
                   replace q22 := eq_true q22
                   have p24 : 0 ≤ (3 : Int) := (by omega)
                   have q24 : 3 < a0.size := (by have : (3 : Int) < (a0.size : Int) := zo_;omega)
                   have hx24 : ∀ h : 3 < a0.size,((a0[3]'h).toNat : Int) = bt a0 3 := bt_at a0 3
                   clear p24
                   have qi24 : (3 < (a0.size : Int)) = True := eq_true (zo_)
                   replace q24 := eq_true q24
                   refine start_ (n := 32) (S := fun w' => True) (ds := []) #[false,false,false,false,false,false,false,false,false,false,false,false,false,false,false,false,false,false,false,false,false,false,false,false,false,false,false,false,false,false,false,false] (by kernel_rfl) rfl rfl trivial (fun hHeld => ?_);refine with_tabW spec_l02ReadMessage.tab7 spec_l02ReadMessage.bits7 (fun HT_ HW_ => ?_)
                   generalize wc.drew = w35 at BK418 HB hHeld ⊢
                   refine zpu 0 (N := some 39) HT_ ?_
                   refine zpu 3 (N := some 42) HT_ ?_
                   refine zpu 6 (N := some 45) HT_ ?_
                   refine zpu 9 (N := some 48) HT_ ?_
                   refine zpu 12 (N := some 51) HT_ ?_
                   refine zpu 13 (N := some 52) HT_ ?_
                   refine zpu 14 (N := some 53) HT_ ?_
                   refine zpu 15 (N := some 54) HT_ ?_
                   refine zpu 16 (N := some 55) HT_ ?_
                   refine zpu 17 (N := some 56) HT_ ?_
                   refine zpu 18 (N := some 57) HT_ ?_
                   refine zpu 19 (N := some 58) HT_ ?_
                   refine zpu 20 (N := some 59) HT_ ?_
                   refine zpu 21 (N := some 60) HT_ ?_
                   refine zpu 22 (N := some 61) HT_ ?_
                   refine zpu 23 (N := some 62) HT_ ?_
                   refine zpu 24 (N := some 63) HT_ ?_
                   refine zpu 25 (N := some 64) HT_ ?_
                   refine zpu 26 (N := some 65) HT_ ?_
                   refine zpu 27 (N := some 66) HT_ ?_
                   refine zpu 28 (N := some 67) HT_ ?_
                   refine take_ (i := 1) (N := some 40) (v := ?_) (a' := ?_) #[true,true,false,true,false,false,true,false,false,true,false,false,true,true,true,true,true,true,true,true,true,true,true,true,true,true,true,true,true,false,false,false] rfl rfl (take_ofW HT_.out HW_.out (by kernel_rfl)) (fun _ _ _ h => h) (Or.inl ⟨by rfl,?_⟩) hHeld ?_ ?_
                   rotate_left
                   ·intro w' _
                    go_simp
                    with_reducible rfl
                   rotate_left
                   ·simp only [Act.put,p1_,p2_,p3_,i64_w,i32_w]
                    rfl
                   refine zpu 2 (N := some 41) HT_ ?_
                   refine take_ (i := 4) (N := some 43) (v := ?_) (a' := ?_) #[true,true,true,true,true,false,true,false,false,true,false,false,true,true,true,true,true,true,true,true,true,true,true,true,true,true,true,true,true,false,false,false] rfl rfl (take_ofW HT_.out HW_.out (by kernel_rfl)) (fun _ _ _ h => h) (Or.inl ⟨by rfl,?_⟩) hHeld ?_ ?_
                   rotate_left
                   ·intro w' _
                    go_simp
                    with_reducible rfl
                   rotate_left
                   ·simp only [Act.put,p1_,p2_,p3_,i64_w,i32_w]
                    rfl
                   refine zpu 5 (N := some 44) HT_ ?_
                   refine take_ (i := 7) (N := some 46) (v := ?_) (a' := ?_) #[true,true,true,true,true,true,true,true,false,true,false,false,true,true,true,true,true,true,true,true,true,true,true,true,true,true,true,true,true,false,false,false] rfl rfl (take_ofW HT_.out HW_.out (by kernel_rfl)) (fun _ _ _ h => h) (Or.inl ⟨by rfl,?_⟩) hHeld ?_ ?_
                   rotate_left
                   ·intro w' _
                    go_simp
                    with_reducible rfl
                   rotate_left
                   ·simp only [Act.put,p1_,p2_,p3_,i64_w,i32_w]
                    rfl
                   refine zpu 8 (N := some 47) HT_ ?_
                   refine take_ (i := 10) (N := some 49) (v := ?_) (a' := ?_) #[true,true,true,true,true,true,true,true,true,true,true,false,true,true,true,true,true,true,true,true,true,true,true,true,true,true,true,true,true,false,false,false] rfl rfl (take_ofW HT_.out HW_.out (by kernel_rfl)) (fun _ _ _ h => h) (Or.inl ⟨by rfl,?_⟩) hHeld ?_ ?_
                   rotate_left
                   ·intro w' _
                    go_simp
                    with_reducible rfl
                   rotate_left
                   ·simp only [Act.put,p1_,p2_,p3_,i64_w,i32_w]
                    rfl
                   refine zpu 11 (N := some 50) HT_ ?_
                   refine zpu 29 (N := some 68) HT_ ?_
                   refine zon 30 (N := some 6) HT_ (fun K hK => ?_)
                   refine box_step ?hg (N := 6) ?hd (cs := #[.int .i64 0,.int .i64 0,.int .i64 0,.int .i64 0,.string ⟨#[]⟩,.string ⟨#[]⟩,.string ⟨#[]⟩]) (t := 63) ?hr ?_;(case hd => rfl);(case hg => rfl);(case hr => first | (go_simp;done) | (go_simp;rfl))
                   intro gb420 hg w36 hbox hb
                   have BK420 := am_ (hbox)
                   have GW420 := zw_ HB hg
                   have GE420 := zw_ HB hg
                   replace HB := zs_ HB hb
                   have NB418_420 := zl hg BK418
                   have NB420_418 := zg hg BK418
                   replace BK418 := zb BK418 hb
                   clear hb hbox hg
                   refine hK.out _ _ trivial (fun hHeld => ?_)
                   clear hK K
                   refine norm_ (a' := ?_) ?_ ?_
                   rotate_left
                   ·show Act.put _ (some 6) _ = _
                    simp only [Act.put,p1_,p2_,p3_,i64_w,i32_w]
                    rfl
                   refine zon 31 (N := none) HT_ (fun K hK => ?_)
                   have hs37 : w36.cell? ⟨gb420,0,none⟩ = some (.int .i64 0) := (blk_cell BK420.out 0).trans rfl
                   have hfs37 := blk_frozen BK420.out 0
                   have hns37_0 := NB418_420.out
                   have hms37_0 := NB420_418.out
                   have hs38 : w36.cell? ⟨gb420,1,none⟩ = some (.int .i64 0) := (blk_cell BK420.out 1).trans rfl
                   have hfs38 := blk_frozen BK420.out 1
                   have hns38_0 := NB418_420.out
                   have hms38_0 := NB420_418.out
                   have hs39 : w36.cell? ⟨gb420,2,none⟩ = some (.int .i64 0) := (blk_cell BK420.out 2).trans rfl
                   have hfs39 := blk_frozen BK420.out 2
                   have hns39_0 := NB418_420.out
                   have hms39_0 := NB420_418.out
                   have hs40 : w36.cell? ⟨gb420,3,none⟩ = some (.int .i64 0) := (blk_cell BK420.out 3).trans rfl
                   have hfs40 := blk_frozen BK420.out 3
                   have hns40_0 := NB418_420.out
                   have hms40_0 := NB420_418.out
                   have hs41 : w36.cell? ⟨gb420,4,none⟩ = some (.string ⟨#[]⟩) := (blk_cell BK420.out 4).trans rfl
                   have hfs41 := blk_frozen BK420.out 4
                   have hns41_0 := NB418_420.out
                   have hms41_0 := NB420_418.out
                   have hs42 : w36.cell? ⟨gb420,5,none⟩ = some (.string ⟨#[]⟩) := (blk_cell BK420.out 5).trans rfl
                   have hfs42 := blk_frozen BK420.out 5
                   have hns42_0 := NB418_420.out
                   have hms42_0 := NB420_418.out
                   have hs43 : w36.cell? ⟨gb420,6,none⟩ = some (.string ⟨#[]⟩) := (blk_cell BK420.out 6).trans rfl
                   have hfs43 := blk_frozen BK420.out 6
                   have hns43_0 := NB418_420.out
                   have hms43_0 := NB420_418.out
                   refine skip_ (w1 := ?_) (by rfl) rfl ?_ ?_
                   rotate_left
                   ·go_simp
                    rfl
                   refine hK.out _ _ trivial (fun hHeld => ?_)
                   clear hK K
                   refine done_ (done_of HT_.out (by kernel_rfl)) ?_
                   try go_wp2
                   have n0_ : Aside0 ((((((((w36.setCell ⟨gb420,0,none⟩ (.int .i64 (wrap64 (bt a0 0)))).setCell ⟨gb420,1,none⟩ (.int .i64 (wrap64 (bt a0 1)))).setCell ⟨gb420,2,none⟩ (.int .i64 (wrap64 (bt a0 2)))).setCell ⟨gb420,3,none⟩ (.int .i64 (wrap64 (bt a0 3)))).setCell ⟨gb420,4,none⟩ (.string (a0.extract 5 ((ji11) : Int).toNat))).setCell ⟨gb420,5,none⟩ (.string (a0.extract ((ji27) : Int).toNat ((ji31) : Int).toNat))).setCell ⟨gb420,6,none⟩ (.string (a0.extract ((ji31) : Int).toNat a0.size))).heap[gb418]? = some (.cells #[.int .i64 0,.int .i64 0,.int .i64 0,.int .i64 0,.string ⟨#[]⟩,.string ⟨#[]⟩,.string ⟨#[]⟩] 63 (0,0))) := ⟨zq BK418⟩
                   have n1_ : Aside0 ((((((((w36.setCell ⟨gb420,0,none⟩ (.int .i64 (wrap64 (bt a0 0)))).setCell ⟨gb420,1,none⟩ (.int .i64 (wrap64 (bt a0 1)))).setCell ⟨gb420,2,none⟩ (.int .i64 (wrap64 (bt a0 2)))).setCell ⟨gb420,3,none⟩ (.int .i64 (wrap64 (bt a0 3)))).setCell ⟨gb420,4,none⟩ (.string (a0.extract 5 ((ji11) : Int).toNat))).setCell ⟨gb420,5,none⟩ (.string (a0.extract ((ji27) : Int).toNat ((ji31) : Int).toNat))).setCell ⟨gb420,6,none⟩ (.string (a0.extract ((ji31) : Int).toNat a0.size))).heap[gb420]? = some (.cells #[.int .i64 (wrap64 (bt a0 0)),.int .i64 (wrap64 (bt a0 1)),.int .i64 (wrap64 (bt a0 2)),.int .i64 (wrap64 (bt a0 3)),.string (a0.extract 5 ((ji11) : Int).toNat),.string (a0.extract ((ji27) : Int).toNat ((ji31) : Int).toNat),.string (a0.extract ((ji31) : Int).toNat a0.size)] 63 (0,0))) := ⟨zq BK420⟩
                   have n2_ : Aside0 (Below w.heap.size w (((((((w36.setCell ⟨gb420,0,none⟩ (.int .i64 (wrap64 (bt a0 0)))).setCell ⟨gb420,1,none⟩ (.int .i64 (wrap64 (bt a0 1)))).setCell ⟨gb420,2,none⟩ (.int .i64 (wrap64 (bt a0 2)))).setCell ⟨gb420,3,none⟩ (.int .i64 (wrap64 (bt a0 3)))).setCell ⟨gb420,4,none⟩ (.string (a0.extract 5 ((ji11) : Int).toNat))).setCell ⟨gb420,5,none⟩ (.string (a0.extract ((ji27) : Int).toNat ((ji31) : Int).toNat))).setCell ⟨gb420,6,none⟩ (.string (a0.extract ((ji31) : Int).toNat a0.size)))) := ⟨zl_ HB⟩
                   (try clear BK418)
                   (try clear BK420)
                   (try clear HB)
                   generalize (((((((w36.setCell ⟨gb420,0,none⟩ (.int .i64 (wrap64 (bt a0 0)))).setCell ⟨gb420,1,none⟩ (.int .i64 (wrap64 (bt a0 1)))).setCell ⟨gb420,2,none⟩ (.int .i64 (wrap64 (bt a0 2)))).setCell ⟨gb420,3,none⟩ (.int .i64 (wrap64 (bt a0 3)))).setCell ⟨gb420,4,none⟩ (.string (a0.extract 5 ((ji11) : Int).toNat))).setCell ⟨gb420,5,none⟩ (.string (a0.extract ((ji27) : Int).toNat ((ji31) : Int).toNat))).setCell ⟨gb420,6,none⟩ (.string (a0.extract ((ji31) : Int).toNat a0.size))) = w44 at n0_ n1_ n2_ ⊢
                   have BK418 := n0_
                   have BK420 := n1_
                   have HB := n2_
                   clear n0_ n1_ n2_
                   replace BK418 := am_ (blk_drew BK418.out)
                   replace BK420 := am_ (blk_drew BK420.out)
                   replace HB := am_ (below_drew1 HB.out)
                   refine start_ (n := 5) (S := fun w' => w'.cell? ⟨gb420,0,none⟩ = some (.int .i64 (wrap64 (bt a0 0))) ∧ w'.cell? ⟨gb420,1,none⟩ = some (.int .i64 (wrap64 (bt a0 1))) ∧ w'.cell? ⟨gb420,2,none⟩ = some (.int .i64 (wrap64 (bt a0 2))) ∧ w'.cell? ⟨gb420,3,none⟩ = some (.int .i64 (wrap64 (bt a0 3))) ∧ w'.cell? ⟨gb420,4,none⟩ = some (.string (a0.extract 5 ((ji11) : Int).toNat)) ∧ w'.cell? ⟨gb420,5,none⟩ = some (.string (a0.extract ((ji27) : Int).toNat ((ji31) : Int).toNat)) ∧ w'.cell? ⟨gb420,6,none⟩ = some (.string (a0.extract ((ji31) : Int).toNat a0.size))) (ds := []) #[false,false,false,false,false] (by kernel_rfl) rfl rfl ⟨(blk_cell BK420.out 0).trans rfl,(blk_cell BK420.out 1).trans rfl,(blk_cell BK420.out 2).trans rfl,(blk_cell BK420.out 3).trans rfl,(blk_cell BK420.out 4).trans rfl,(blk_cell BK420.out 5).trans rfl,(blk_cell BK420.out 6).trans rfl⟩ (fun hHeld => ?_)
                   generalize w44.drew = w45 at BK418 BK420 HB hHeld ⊢
                   refine take_ (i := 0) (N := some 69) (v := ?_) (a' := ?_) #[true,false,false,false,false] rfl rfl (by kernel_rfl) (fun _ _ _ h => h) (Or.inl ⟨by rfl,?_⟩) hHeld ?_ ?_
                   rotate_left
                   ·rintro w' ⟨s0,s1,s2,s3,s4,s5,s6⟩
                    go_simp
                    with_reducible rfl
                   rotate_left
                   ·simp only [Act.put,p1_,p2_,p3_,i64_w,i32_w]
                    rfl
                   refine take_ (i := 1) (N := some 70) (v := ?_) (a' := ?_) #[true,true,false,false,false] rfl rfl (by kernel_rfl) (fun _ _ _ h => h) (Or.inl ⟨by rfl,?_⟩) hHeld ?_ ?_
                   rotate_left
                   ·rintro w' ⟨s0,s1,s2,s3,s4,s5,s6⟩
                    go_simp
                    with_reducible rfl
                   rotate_left
                   ·simp only [Act.put,p1_,p2_,p3_,i64_w,i32_w]
                    rfl
                   refine one_ (i := 2) (N := some 71) #[true,true,true,false,false] rfl rfl (by kernel_rfl) (by decide) (fun K hK => ?_)
                   refine goes_ Try.func38 (by kernel_rfl) rfl #[.agg #[.int .i64 (wrap64 (bt a0 0)),.int .i64 (wrap64 (bt a0 1)),.int .i64 (wrap64 (bt a0 2)),.int .i64 (wrap64 (bt a0 3)),.string (a0.extract 5 ((ji11) : Int).toNat),.string (a0.extract ((ji27) : Int).toNat ((ji31) : Int).toNat),.string (a0.extract ((ji31) : Int).toNat a0.size)]] (by rfl) rfl rfl (by (try simp only [m1_,m2_,m3_]);first | done | (simp only [hji11,hji27,hji31];rfl) | rfl | (simp only [d1_,d2_];rfl)) ?_
                   with_reducible refine (spec_MessageOK.calls kj1 (wrap64 (bt a0 0)) (wrap64 (bt a0 1)) (wrap64 (bt a0 2)) (wrap64 (bt a0 3)) (a0.extract 5 ((ji11) : Int).toNat) (a0.extract ((ji27) : Int).toNat ((ji31) : Int).toNat) (a0.extract ((ji31) : Int).toNat a0.size) t421 _ A34.out).mono ?_
                   rintro e w46 ⟨rfl,hb⟩
                   refine ⟨_,rfl,?_⟩
                   replace BK418 := zb BK418 hb
                   replace BK420 := zb BK420 hb
                   replace HB := zs_ HB hb
                   (try clear hb)
                   (try clear hb2)
                   (try clear hk)
                   (try clear hi)
                   refine hK.out _ _ ⟨(blk_cell BK420.out 0).trans rfl,(blk_cell BK420.out 1).trans rfl,(blk_cell BK420.out 2).trans rfl,(blk_cell BK420.out 3).trans rfl,(blk_cell BK420.out 4).trans rfl,(blk_cell BK420.out 5).trans rfl,(blk_cell BK420.out 6).trans rfl⟩ (fun hHeld => ?_)
                   clear hK K
                   refine norm_ (a' := ?_) ?_ ?_
                   rotate_left
                   ·show Act.put _ (some 71) _ = _
                    simp only [Act.put,p1_,p2_,p3_,i64_w,i32_w]
                    rfl
                   refine one_ (i := 3) (N := none) #[true,true,true,true,false] rfl rfl (by kernel_rfl) (by decide) (fun K hK => ?_)
                   have hs47 : w46.cell? ⟨gb418,0,none⟩ = some (.int .i64 0) := (blk_cell BK418.out 0).trans rfl
                   have hfs47 := blk_frozen BK418.out 0
                   have hns47_1 := NB420_418.out
                   have hms47_1 := NB418_420.out
                   have hs48 : w46.cell? ⟨gb418,1,none⟩ = some (.int .i64 0) := (blk_cell BK418.out 1).trans rfl
                   have hfs48 := blk_frozen BK418.out 1
                   have hns48_1 := NB420_418.out
                   have hms48_1 := NB418_420.out
                   have hs49 : w46.cell? ⟨gb418,2,none⟩ = some (.int .i64 0) := (blk_cell BK418.out 2).trans rfl
                   have hfs49 := blk_frozen BK418.out 2
                   have hns49_1 := NB420_418.out
                   have hms49_1 := NB418_420.out
                   have hs50 : w46.cell? ⟨gb418,3,none⟩ = some (.int .i64 0) := (blk_cell BK418.out 3).trans rfl
                   have hfs50 := blk_frozen BK418.out 3
                   have hns50_1 := NB420_418.out
                   have hms50_1 := NB418_420.out
                   have hs51 : w46.cell? ⟨gb418,4,none⟩ = some (.string ⟨#[]⟩) := (blk_cell BK418.out 4).trans rfl
                   have hfs51 := blk_frozen BK418.out 4
                   have hns51_1 := NB420_418.out
                   have hms51_1 := NB418_420.out
                   have hs52 : w46.cell? ⟨gb418,5,none⟩ = some (.string ⟨#[]⟩) := (blk_cell BK418.out 5).trans rfl
                   have hfs52 := blk_frozen BK418.out 5
                   have hns52_1 := NB420_418.out
                   have hms52_1 := NB418_420.out
                   have hs53 : w46.cell? ⟨gb418,6,none⟩ = some (.string ⟨#[]⟩) := (blk_cell BK418.out 6).trans rfl
                   have hfs53 := blk_frozen BK418.out 6
                   have hns53_1 := NB420_418.out
                   have hms53_1 := NB418_420.out
                   refine skip_ (w1 := ?_) (by rfl) rfl ?_ ?_
                   rotate_left
                   ·go_simp
                    rfl
                   refine hK.out _ _ ⟨((cell_far (p := ⟨gb418,_,none⟩) NB420_418.out _).trans (((cell_far (p := ⟨gb418,_,none⟩) NB420_418.out _).trans (((cell_far (p := ⟨gb418,_,none⟩) NB420_418.out _).trans (((cell_far (p := ⟨gb418,_,none⟩) NB420_418.out _).trans (((cell_far (p := ⟨gb418,_,none⟩) NB420_418.out _).trans (((cell_far (p := ⟨gb418,_,none⟩) NB420_418.out _).trans (((cell_far (p := ⟨gb418,_,none⟩) NB420_418.out _).trans (hHeld.1)))))))))))))),((cell_far (p := ⟨gb418,_,none⟩) NB420_418.out _).trans (((cell_far (p := ⟨gb418,_,none⟩) NB420_418.out _).trans (((cell_far (p := ⟨gb418,_,none⟩) NB420_418.out _).trans (((cell_far (p := ⟨gb418,_,none⟩) NB420_418.out _).trans (((cell_far (p := ⟨gb418,_,none⟩) NB420_418.out _).trans (((cell_far (p := ⟨gb418,_,none⟩) NB420_418.out _).trans (((cell_far (p := ⟨gb418,_,none⟩) NB420_418.out _).trans (hHeld.2.1)))))))))))))),((cell_far (p := ⟨gb418,_,none⟩) NB420_418.out _).trans (((cell_far (p := ⟨gb418,_,none⟩) NB420_418.out _).trans (((cell_far (p := ⟨gb418,_,none⟩) NB420_418.out _).trans (((cell_far (p := ⟨gb418,_,none⟩) NB420_418.out _).trans (((cell_far (p := ⟨gb418,_,none⟩) NB420_418.out _).trans (((cell_far (p := ⟨gb418,_,none⟩) NB420_418.out _).trans (((cell_far (p := ⟨gb418,_,none⟩) NB420_418.out _).trans (hHeld.2.2.1)))))))))))))),((cell_far (p := ⟨gb418,_,none⟩) NB420_418.out _).trans (((cell_far (p := ⟨gb418,_,none⟩) NB420_418.out _).trans (((cell_far (p := ⟨gb418,_,none⟩) NB420_418.out _).trans (((cell_far (p := ⟨gb418,_,none⟩) NB420_418.out _).trans (((cell_far (p := ⟨gb418,_,none⟩) NB420_418.out _).trans (((cell_far (p := ⟨gb418,_,none⟩) NB420_418.out _).trans (((cell_far (p := ⟨gb418,_,none⟩) NB420_418.out _).trans (hHeld.2.2.2.1)))))))))))))),((cell_far (p := ⟨gb418,_,none⟩) NB420_418.out _).trans (((cell_far (p := ⟨gb418,_,none⟩) NB420_418.out _).trans (((cell_far (p := ⟨gb418,_,none⟩) NB420_418.out _).trans (((cell_far (p := ⟨gb418,_,none⟩) NB420_418.out _).trans (((cell_far (p := ⟨gb418,_,none⟩) NB420_418.out _).trans (((cell_far (p := ⟨gb418,_,none⟩) NB420_418.out _).trans (((cell_far (p := ⟨gb418,_,none⟩) NB420_418.out _).trans (hHeld.2.2.2.2.1)))))))))))))),((cell_far (p := ⟨gb418,_,none⟩) NB420_418.out _).trans (((cell_far (p := ⟨gb418,_,none⟩) NB420_418.out _).trans (((cell_far (p := ⟨gb418,_,none⟩) NB420_418.out _).trans (((cell_far (p := ⟨gb418,_,none⟩) NB420_418.out _).trans (((cell_far (p := ⟨gb418,_,none⟩) NB420_418.out _).trans (((cell_far (p := ⟨gb418,_,none⟩) NB420_418.out _).trans (((cell_far (p := ⟨gb418,_,none⟩) NB420_418.out _).trans (hHeld.2.2.2.2.2.1)))))))))))))),((cell_far (p := ⟨gb418,_,none⟩) NB420_418.out _).trans (((cell_far (p := ⟨gb418,_,none⟩) NB420_418.out _).trans (((cell_far (p := ⟨gb418,_,none⟩) NB420_418.out _).trans (((cell_far (p := ⟨gb418,_,none⟩) NB420_418.out _).trans (((cell_far (p := ⟨gb418,_,none⟩) NB420_418.out _).trans (((cell_far (p := ⟨gb418,_,none⟩) NB420_418.out _).trans (((cell_far (p := ⟨gb418,_,none⟩) NB420_418.out _).trans (hHeld.2.2.2.2.2.2))))))))))))))⟩ (fun hHeld => ?_)
                   clear hK K
                   refine pure_ (i := 4) (N := some 3) (v := ?_) (a' := ?_) #[true,true,true,true,true] rfl rfl (by kernel_rfl) (fun _ _ _ h => h) (Or.inl ⟨by rfl,?_⟩) ?_ ?_
                   rotate_left
                   ·intro w'
                    go_simp
                    with_reducible rfl
                   rotate_left
                   ·simp only [Act.put,p1_,p2_,p3_,i64_w,i32_w]
                    rfl
                   refine done_ (by kernel_rfl) ?_
                   try go_wp2
                   refine bodyPost_ret (results_ct rfl _ _ gb418 63 #[.int .i64 (wrap64 (bt a0 0)),.int .i64 (wrap64 (bt a0 1)),.int .i64 (wrap64 (bt a0 2)),.int .i64 (wrap64 (bt a0 3)),.string (a0.extract 5 ((ji11) : Int).toNat),.string (a0.extract ((ji27) : Int).toNat ((ji31) : Int).toNat),.string (a0.extract ((ji31) : Int).toNat a0.size)] (0,0) _ rfl (zq BK418) Try.underlying63 rfl (by kernel_rfl)) rfl ?_
                   exact ⟨by first | rfl | (simp [e1_,e2_] <;> rfl) | (simp only [← hji11,← hji27,← hji31];first | rfl | (simp [e1_,e2_] <;> rfl)) | (simp [*,e1_,e2_] <;> rfl) | (simp [e3_,e4_];done) | (simp [*,e3_,e4_];done),zl_ HB⟩
                  ·rw [if_neg c32] at H
                   exact absurd H (by simp)
                 ·rw [if_neg c30] at H
                  exact absurd H (by simp)
                ·rw [if_neg c29] at H
                 exact absurd H (by simp)
               ·rw [if_neg c28] at H
                exact absurd H (by simp)
              ·rw [if_neg c26] at H
               exact absurd H (by simp)
             ·rw [if_neg c25] at H
              exact absurd H (by simp)
            ·rw [if_neg c23] at H
             exact absurd H (by simp)
           ·rw [if_neg c21] at H
            exact absurd H (by simp)
          ·rw [if_neg c19] at H
           exact absurd H (by simp)
         ·rw [if_neg c17] at H
          exact absurd H (by simp)
        ·rw [if_neg c16] at H
         have c16b0 : ((a0.size : Int) == (wrap64 ((wrap64 ((wrap64 ((ji11) + 2)) + t419)) + 8))) = false := beq_eq_false_iff_ne.mpr c16
         have c16b1 : ((a0.size : Int) != (wrap64 ((wrap64 ((wrap64 ((ji11) + 2)) + t419)) + 8))) = true := bne_iff_ne.mpr c16
         simp only [Option.some.injEq,Prod.mk.injEq] at H
         obtain ⟨rfl,rfl,rfl,rfl,rfl,rfl,rfl,rfl⟩ := H
         have p10 : 0 ≤ (4 : Int) := (by omega)
         have q10 : 4 < a0.size := (by have : (4 : Int) < (a0.size : Int) := zo_;omega)
         have hx10 : ∀ h : 4 < a0.size,((a0[4]'h).toNat : Int) = bt a0 4 := bt_at a0 4
         clear p10
         have qi10 : (4 < (a0.size : Int)) = True := eq_true (zo_)
         replace q10 := eq_true q10
         go_wp2_with (first | ((with_reducible refine gate_callee (f := 86) rfl ?_);refine goesL_ (some 29) rfl rfl Try.func86 (by kernel_rfl) rfl #[.string (a0.extract ((ji11) : Int).toNat ((wrap64 ((ji11) + 2)) : Int).toNat)] rfl (by (try simp only [m1_,m2_,m3_]);first | done | (simp only [hji11];rfl) | rfl | (simp only [d1_,d2_];rfl)) ?_;(with_reducible refine (spec_l02Of.calls kj1 (a0.extract ((ji11) : Int).toNat ((wrap64 ((ji11) + 2)) : Int).toNat) t419 _ A15.out).mono ?_);rintro e w' ⟨rfl,⟨nd,rfl⟩⟩;refine ⟨_,rfl,?_⟩;(try (rw [drewN_self wc];generalize hq_ : World.drewN wc _ = wc;have n0_ : Aside0 (wc.heap[gb418]? = some (.cells #[.int .i64 0,.int .i64 0,.int .i64 0,.int .i64 0,.string ⟨#[]⟩,.string ⟨#[]⟩,.string ⟨#[]⟩] 63 (0,0))) := ⟨by rw [← hq_];exact (zk BK418)⟩;have n1_ : Aside0 (Below w.heap.size w wc) := ⟨by rw [← hq_];exact (zl_ HB)⟩;clear BK418 HB hq_;have BK418 := n0_;have HB := n1_;clear n0_ n1_));(try have hfu418_0 := blk_frozen BK418.out 0);(try have hcu418_0 : wc.cell? ⟨gb418,0,none⟩ = some (.int .i64 0) := (blk_cell BK418.out 0).trans rfl);(try have hfu418_1 := blk_frozen BK418.out 1);(try have hcu418_1 : wc.cell? ⟨gb418,1,none⟩ = some (.int .i64 0) := (blk_cell BK418.out 1).trans rfl);(try have hfu418_2 := blk_frozen BK418.out 2);(try have hcu418_2 : wc.cell? ⟨gb418,2,none⟩ = some (.int .i64 0) := (blk_cell BK418.out 2).trans rfl);(try have hfu418_3 := blk_frozen BK418.out 3);(try have hcu418_3 : wc.cell? ⟨gb418,3,none⟩ = some (.int .i64 0) := (blk_cell BK418.out 3).trans rfl);(try have hfu418_4 := blk_frozen BK418.out 4);(try have hcu418_4 : wc.cell? ⟨gb418,4,none⟩ = some (.string ⟨#[]⟩) := (blk_cell BK418.out 4).trans rfl);(try have hfu418_5 := blk_frozen BK418.out 5);(try have hcu418_5 : wc.cell? ⟨gb418,5,none⟩ = some (.string ⟨#[]⟩) := (blk_cell BK418.out 5).trans rfl);(try have hfu418_6 := blk_frozen BK418.out 6);(try have hcu418_6 : wc.cell? ⟨gb418,6,none⟩ = some (.string ⟨#[]⟩) := (blk_cell BK418.out 6).trans rfl);obtain ⟨hcz54_0,hcz54_1,hcz54_2,hcz54_3,hcz54_4,hcz54_5,hcz54_6,hfz54_0,hfz54_1,hfz54_2,hfz54_3,hfz54_4,hfz54_5,hfz54_6⟩ := zc7 BK418))
         refine bodyPost_ret (results_ct rfl _ _ gb418 63 #[.int .i64 0,.int .i64 0,.int .i64 0,.int .i64 0,.string ⟨#[]⟩,.string ⟨#[]⟩,.string ⟨#[]⟩] (0,0) _ rfl (zq BK418) Try.underlying63 rfl (by kernel_rfl)) rfl ?_
         exact ⟨by first | rfl | (simp [e1_,e2_] <;> rfl) | (simp only [← hji11];first | rfl | (simp [e1_,e2_] <;> rfl)) | (simp [*,e1_,e2_] <;> rfl) | (simp [e3_,e4_];done) | (simp [*,e3_,e4_];done),zl_ HB⟩
       ·rw [if_neg c14] at H
        exact absurd H (by simp)
      ·rw [if_neg c13] at H
       exact absurd H (by simp)
     ·rw [if_neg c12] at H
      exact absurd H (by simp)
    ·rw [if_neg c9] at H
     exact absurd H (by simp)
set_option maxHeartbeats 8000000 in
set_option maxRecDepth 100000 in
theorem spec_l06Read.calls (k : Nat) (a0 : ByteArray) (r1 : ByteArray) (r2 : List (S63)) (r3 : Bool) (w : World) (h : spec_l06Read.f k a0 = some (r1,r2,r3)) :
  Calls Try.prog 44 #[.string a0] w fun e w' => ∃ v1_ : Value,e = .returned (.tuple #[.agg #[.string r1,v1_],.bool r3]) ∧ Kd.R k63 63 w' w.heap.size (fun _ => True) v1_ r2 ∧ Below w.heap.size w w' := by
 have hu39 := Try.underlying39
 have hu63 := Try.underlying63
 have HB := am_ (Below.refl w.heap.size w)
 have H : ((spec_l02ReadList.f k a0).bind fun bt423 => (if bt423.2 = true then ((spec_l01In.f (bt423.1.length : Int) 1 8).bind fun t427 => (spec_l06Read.j0 k bt423.1 (!t427))) else (spec_l06Read.j0 k bt423.1 true))) = some (r1,r2,r3) := h
 clear h
 replace H := Option.bind_eq_some_iff.mp H
 obtain ⟨⟨t423,t424⟩,A20,H⟩ := H
 try dsimp only at H
 have A2 := am_ A20
 clear A20
 have HC3 := am_ H
 clear H
 go_enter Try.func44,Try.ntmps44
 go_upto_region 2 with (first | ((with_reducible refine gate_dst (N := 2) rfl ?_);(try (refine gate_guard (by rfl) ?_;dsimp only));refine zbx (N := 2) (cs := #[.string ⟨#[]⟩,.slice none 0 0]) (t := 39) ?_;intro gb422 hg w4 hbox hb;have BK422 := am_ (hbox);have GW422 := zw_ HB hg;have GE422 := zw_ HB hg;replace HB := zs_ HB hb;clear hb hbox hg) | ((with_reducible refine gate_callee (f := 72) rfl ?_);refine zgl (some 12) Try.func72 #[.string a0] ?_;(with_reducible refine (spec_l02ReadList.calls k a0 t423 t424 _ A2.out).mono ?_);rintro e w5 ⟨v425,rfl,ho0,hb⟩;refine ⟨_,rfl,?_⟩;have HO426 := am_ (Kd.R_lower ho0 (below_size (zl_ HB)));replace BK422 := zb BK422 hb;replace HB := zs_ HB hb;(try clear hb);(try clear hb2);(try clear hk);(try clear hi);(try clear ho0)))
 (try simp only [Act.put,p1_,p2_,p3_])
 go_cut [22] (fun v22 wc => ∃ (kq : Nat) (x22_2 : Bool),v22 = .bool x22_2 ∧ Aside0 (spec_l06Read.j0 kq t423 x22_2 = some (r1,r2,r3)) ∧ Aside0 (kq ≤ k) ∧ Aside0 (Kd.R Kd.string 9 wc w.heap.size (fun _ => True) v425 t423) ∧ Aside0 (wc.heap[gb422]? = some (.cells #[.string ⟨#[]⟩,(.slice none 0 0)] 39 (0,0))) ∧ Aside0 (Below w.heap.size w wc))
 case first =>
  have H := HC3.out
  clear HC3
  by_cases c6 : t424 = true
  ·subst c6
   have H1 : ((spec_l01In.f (t423.length : Int) 1 8).bind fun t427 => (spec_l06Read.j0 k t423 (!t427))) = some (r1,r2,r3) := by rw [if_pos rfl] at H;exact H
   clear H
   have H := H1
   clear H1
   replace H := Option.bind_eq_some_iff.mp H
   obtain ⟨t427,A70,H⟩ := H
   try dsimp only at H
   have A7 := am_ A70
   clear A70
   have H' := am_ H
   clear H
   obtain ⟨Ao8,co8,eo8⟩ := Kd.R_slice HO426.out
   subst eo8
   go_wp2_with (first | (go_at_call 48;(with_reducible refine (spec_l01In.calls (t423.length : Int) 1 8 t427 _ A7.out).mono ?_);rintro e w' ⟨rfl,⟨nd,rfl⟩⟩))
   go_meet
   case rel => exact ⟨_,(!t427),(by first | rfl | (simp;done) | (simp [*];done)),H',⟨by first | omega | exact Nat.le_refl _⟩,⟨zr HO426⟩,⟨by (with_reducible repeat (first | apply k1_ | apply k2_ | apply k3_));exact BK422.out⟩,⟨zl_ HB⟩⟩
  ·replace c6 := Bool.eq_false_iff.mpr c6
   subst c6
   have H1 : (spec_l06Read.j0 k t423 true) = some (r1,r2,r3) := by rw [if_neg (show ¬ (false = true) by decide)] at H;exact H
   clear H
   have H := H1
   clear H1
   have H' := am_ H
   clear H
   go_wp2
   go_meet
   case rel => exact ⟨_,(true),(by first | rfl | (simp;done) | (simp [*];done)),H',⟨by first | omega | exact Nat.le_refl _⟩,⟨zr HO426⟩,⟨by (with_reducible repeat (first | apply k1_ | apply k2_ | apply k3_));exact BK422.out⟩,⟨zl_ HB⟩⟩
 case rest =>
  clear HC3
  try clear p2
  try clear c4
  try clear c6
  try clear c7
  obtain ⟨kq,x22_2,rfl,HA,HJ2,HO_4,BK422,HB⟩ := hcut
  cases kq with
  | zero => exact absurd HA.out (by simp [spec_l06Read.j0])
  | succ kj2 =>
   have H := HA.out
   clear HA
   simp only [spec_l06Read.j0] at H
   by_cases c9 : x22_2 = true
   ·subst c9
    have H1 : (some ((⟨#[]⟩ : ByteArray),([] : List (S63)),false)) = some (r1,r2,r3) := by rw [if_pos rfl] at H;exact H
    clear H
    have H := H1
    clear H1
    simp only [Option.some.injEq,Prod.mk.injEq] at H
    obtain ⟨rfl,rfl,rfl⟩ := H
    obtain ⟨hcz10_0,hcz10_1,hfz10_0,hfz10_1⟩ := zc2 BK422
    go_wp2
    refine bodyPost_ret (results_ct rfl _ _ gb422 39 #[.string ⟨#[]⟩,.slice none 0 0] (0,0) _ rfl (zq BK422) Try.underlying39 rfl (by kernel_rfl)) rfl ?_
    exact ⟨_,zt_,by first | exact Kd.R_nil _ _ _ _ _ | exact Kd.N_nil _ _ _ _ _ | exact Kd.V_nil _ _ _ _ _ | exact Kd.Q_nil _ _ _ _ _ | exact Kd.S_nil _ _ _ _ _,zl_ HB⟩
   ·replace c9 := Bool.eq_false_iff.mpr c9
    subst c9
    have H1 : (if 0 < (t423.length : Int) then (spec_l06Read.l0 kj2 t423 1 (rdOf ByteArray.empty t423 0) (([] : List (S63)))) else (none)) = some (r1,r2,r3) := by rw [if_neg (show ¬ (false = true) by decide)] at H;exact H
    clear H
    have H := H1
    clear H1
    by_cases c11 : 0 < (t423.length : Int)
    ·rw [if_pos c11] at H
     have c11b0 : decide (0 < (t423.length : Int)) = true := decide_eq_true c11
     have c11b1 : decide (0 < t423.length) = true := decide_eq_true (by omega)
     clear c11
     obtain ⟨y429,hy429⟩ : ∃ y_ : List (S63),y_ = (([] : List (S63))) := ⟨_,rfl⟩
     replace H : (spec_l06Read.l0 kj2 t423 1 (rdOf ByteArray.empty t423 0) y429) = some (r1,r2,r3) := by first | (rw [hy429];with_reducible exact H) | (have H2_ := (Option.bind_some _ _).symm.trans H;rw [hy429];with_reducible exact H2_) | (have H2_ := (Option.bind_some _ _).symm.trans H;with_reducible exact H2_) | with_reducible exact H | (rw [hy429];exact H) | exact H
     have Ny429 := am_ hy429
     clear hy429
     have H' := am_ H
     clear H
     obtain ⟨Ao12,co12,eo12⟩ := Kd.R_slice HO_4.out
     subst eo12
     have p428 : 0 ≤ (0 : Int) := (by omega)
     have q428 : 0 < (t423.length : Int) := zo_
     obtain ⟨ad428,e428,hx428_0⟩ := Kd.at_string (Kd.R_reads' HO_4.out).2.2 0 p428 q428
     cases e428
     have qi428 : (0 < t423.length) = True := eq_true (by omega)
     (try rw [show ((0 : Int)).toNat = 0 from rfl] at hx428_0)
     (try rw [Addr.add_zero'] at hx428_0)
     replace p428 := eq_true p428
     replace q428 := eq_true q428
     go_wp2_with (first | ((with_reducible refine gate_dst (N := 27) rfl ?_);(try (refine gate_guard (by rfl) ?_;dsimp only));refine Kd.R_lit k63 _ 63 ?hg (N := 27) ?hd (xs := ([] : List (S63))) (inner := []) (ok := fun _ => True) (okp := fun _ => True) ?hr ?hp (fun _ hk => hk) trivial (Below.refl _ _) (Nat.le_refl _) (by simp) ?_;(case hd => rfl);(case hg => rfl);(case hr => first | (go_simp;done) | (go_simp;rfl));(case hp => exact (Reps.none _ _));intro v430 w13 ho14 hb hg_ hnew_;clear hg_ hnew_;(first | rw [← Ny429.out] at ho14 | (simp only [Int.reduceToNat] at ho14;rw [← Ny429.out] at ho14));replace HO_4 := zrb HO_4 hb;have HO431 := am_ (Kd.R_lower ho14 (below_size (zl_ HB)));replace BK422 := zb BK422 hb;replace HB := zs_ HB hb;clear hb ho14;obtain ⟨Ao15,co15,eo15⟩ := Kd.R_slice HO431.out;subst eo15) | ((with_reducible refine gate_dst (N := 6) rfl ?_);(try (refine gate_guard (by rfl) ?_;dsimp only));refine zbx (N := 6) (cs := #[.string ⟨#[]⟩,.slice none 0 0]) (t := 39) ?_;intro gb432 hg w16 hbox hb;replace HO_4 := zrb HO_4 hb;replace HO431 := zrb HO431 hb;have BK432 := am_ (hbox);have GW432 := zw_ HB hg;have GE432 := zw_ HB hg;replace HB := zs_ HB hb;have NB422_432 := zl hg BK422;have NB432_422 := zg hg BK422;replace BK422 := zb BK422 hb;clear hb hbox hg;have hnb17 := NB432_422.out;have hnc17 := NB422_432.out;obtain ⟨hcz18_0,hcz18_1,hfz18_0,hfz18_1⟩ := zc2 BK432))
     go_loopg [7] kj2 (fun kq v7 w' => ∃ (x7_2 : Int) (x423000_2 : ByteArray) (x433001_2 : List (S63)) (u433001 : Value),v7 = .int .i64 x7_2 ∧ Aside0 (spec_l06Read.l0 kq t423 x7_2 (rdOf ByteArray.empty t423 0) x433001_2 = some (r1,r2,r3)) ∧ Aside0 (kq ≤ kj2) ∧ Aside0 (Kd.R Kd.string 9 w' w.heap.size (fun _ => True) (.slice (some ad428) t423.length co12) t423) ∧ Aside0 (Kd.R k63 63 w' w.heap.size (fun _ => True) u433001 x433001_2) ∧ Aside0 (w'.heap[gb422]? = some (.cells #[.string x423000_2,(.slice none 0 0)] 39 (0,0))) ∧ Aside0 (w'.heap[gb432]? = some (.cells #[.string (rdOf ByteArray.empty t423 0),u433001] 39 (0,0))) ∧ Aside0 (Below w.heap.size w w'))
     case atStart => exact ⟨(1),((⟨#[]⟩ : ByteArray)),(y429),(.slice Ao15 y429.length co15),(by first | rfl | (simp;done) | (simp [*];done)),H',⟨Nat.le_refl _⟩,⟨by (with_reducible repeat (first | apply r1_ | apply r2_ | apply r3_));exact Kd.R_mono (zrf (Kd.R_types HO_4.out BK432.out (by decide))) (fun _ hk => trivial)⟩,⟨by (with_reducible repeat (first | apply r1_ | apply r2_ | apply r3_));exact Kd.R_mono (zrf (Kd.R_types HO431.out BK432.out (by decide))) (fun _ hk => trivial)⟩,⟨zq BK422⟩,⟨zq BK432⟩,⟨zl_ HB⟩⟩
     case round =>
      clear H'
      try clear c1
      try clear p2
      try clear c4
      try clear p4
      try clear q4
      try clear hx4
      try clear qi4
      try clear c6
      try clear c7
      try clear c9
      try clear c11
      try clear c11b0
      try clear c11b1
      try clear c17
      try clear hcz10_0
      try clear hcz10_1
      try clear hcz18_0
      try clear hcz18_1
      try clear hfz10_0
      try clear hfz10_1
      try clear hfz18_0
      try clear hfz18_1
      try clear hx428_0
      try clear p2
      try clear p428
      try clear q428
      obtain ⟨x7_2,x423000_2,x433001_2,u433001,rfl,HA,HK2,HO_4,HO_433001,BK422,BK432,HB⟩ := hrel
      cases gk with
      | zero => exact absurd HA.out (by simp [spec_l06Read.l0])
      | succ k2 =>
       have H := HA.out
       clear HA
       simp only [spec_l06Read.l0] at H
       by_cases c19 : x7_2 < (t423.length : Int)
       ·rw [if_pos c19] at H
        have c19b0 : decide (x7_2 < (t423.length : Int)) = true := decide_eq_true c19
        clear c19
        by_cases c20 : 0 ≤ x7_2
        ·rw [if_pos c20] at H
         have c20b0 : decide (0 ≤ x7_2) = true := decide_eq_true c20
         clear c20
         replace H := Option.bind_eq_some_iff.mp H
         obtain ⟨⟨t434,t435,t436,t437,t438,t439,t440,t441⟩,A210,H⟩ := H
         try dsimp only at H
         have A21 := am_ A210
         clear A210
         by_cases c22 : t441 = true
         ·subst c22
          have H1 : (if t434 = 2 then (if x433001_2.length < 1759218604441 then (spec_l06Read.l0 k2 t423 (wrap64 (x7_2 + 1)) (rdOf ByteArray.empty t423 0) (x433001_2 ++ [(⟨t434,t435,t436,t437,t438,t439,t440⟩ : S63)])) else (none)) else (some ((⟨#[]⟩ : ByteArray),([] : List (S63)),false))) = some (r1,r2,r3) := by rw [if_pos rfl] at H;exact H
          clear H
          have H := H1
          clear H1
          by_cases c23 : t434 = 2
          ·rw [if_pos c23] at H
           have c23b0 : (t434 == 2) = true := beq_iff_eq.mpr c23
           have c23b1 : (t434 != 2) = false := bne_eq_false_iff_eq.mpr c23
           clear c23
           by_cases c24 : x433001_2.length < 1759218604441
           ·rw [if_pos c24] at H
            have LMc24 := am_ c24
            clear c24
            obtain ⟨y443,hy443⟩ : ∃ y_ : List (S63),y_ = (x433001_2 ++ [(⟨t434,t435,t436,t437,t438,t439,t440⟩ : S63)]) := ⟨_,rfl⟩
            replace H : (spec_l06Read.l0 k2 t423 (wrap64 (x7_2 + 1)) (rdOf ByteArray.empty t423 0) y443) = some (r1,r2,r3) := by first | (rw [hy443];with_reducible exact H) | (have H2_ := (Option.bind_some _ _).symm.trans H;rw [hy443];with_reducible exact H2_) | (have H2_ := (Option.bind_some _ _).symm.trans H;with_reducible exact H2_) | with_reducible exact H | (rw [hy443];exact H) | exact H
            have Ny443 := am_ hy443
            clear hy443
            have H' := am_ H
            clear H
            have p433 : 0 ≤ (x7_2 : Int) := zo_
            have q433 : x7_2 < (t423.length : Int) := zo_
            obtain ⟨ad433,e433,hx433_0⟩ := Kd.at_string (Kd.R_reads' HO_4.out).2.2 x7_2 p433 q433
            obtain rfl : ad428 = ad433 := (by injection e433)
            replace p433 := eq_true p433
            replace q433 := eq_true q433
            go_wp2_with (first | ((with_reducible refine gate_callee (f := 73) rfl ?_);refine zgl (some 40) Try.func73 #[.string (rdOf ByteArray.empty t423 x7_2)] ?_;(with_reducible refine (spec_l02ReadMessage.calls k2 (rdOf ByteArray.empty t423 x7_2) t434 t435 t436 t437 t438 t439 t440 true _ A21.out).mono ?_);rintro e w25 ⟨rfl,hb⟩;refine ⟨_,rfl,?_⟩;replace HO_4 := zrb HO_4 hb;replace HO_433001 := zrb HO_433001 hb;replace BK422 := zb BK422 hb;replace BK432 := zb BK432 hb;replace HB := zs_ HB hb;(try clear hb);(try clear hb2);(try clear hk);(try clear hi)) | ((with_reducible refine gate_dst (N := 8) rfl ?_);(try (refine gate_guard (by rfl) ?_;dsimp only));refine zbx (N := 8) (cs := #[.int .i64 0,.int .i64 0,.int .i64 0,.int .i64 0,.string ⟨#[]⟩,.string ⟨#[]⟩,.string ⟨#[]⟩]) (t := 63) ?_;intro gb442 hg w26 hbox hb;replace HO_4 := zrb HO_4 hb;replace HO_433001 := am_ (Kd.R_below (Kd.R_elderB (zr HO_433001) gb442 (Nat.le_of_eq hg.symm)) hb);have BK442 := am_ (hbox);have GW442 := zw_ HB hg;have GE442 := zw_ HB hg;replace HB := zs_ HB hb;have NB422_442 := zl hg BK422;have NB442_422 := zg hg BK422;replace BK422 := zb BK422 hb;have NB432_442 := zl hg BK432;have NB442_432 := zg hg BK432;replace BK432 := zb BK432 hb;clear hb hbox hg;have hnb27 := NB442_422.out;have hnc27 := NB422_442.out;have hnb28 := NB442_432.out;have hnc28 := NB432_442.out;obtain ⟨hcz29_0,hcz29_1,hcz29_2,hcz29_3,hcz29_4,hcz29_5,hcz29_6,hfz29_0,hfz29_1,hfz29_2,hfz29_3,hfz29_4,hfz29_5,hfz29_6⟩ := zc7 BK442;have hnb30 := NB432_422.out;have hnc30 := NB422_432.out;obtain ⟨hcz31_0,hcz31_1,hfz31_0,hfz31_1⟩ := zc2 BK432) | ((with_reducible refine gate_builtin (b := .append) (xs := #[.tmp 52,.tmp 54]) rfl ?_);(try (refine gate_guard (by rfl) ?_;dsimp only));at_builtin;refine Kd.R_append k63 (w0 := w) w.heap.size rfl (.tmp 52) (.tmp 54) 37 63 (.agg #[(.int .i64 0),(.int .i64 0),(.int .i64 0),(.int .i64 0),(.string ⟨#[]⟩),(.string ⟨#[]⟩),(.string ⟨#[]⟩)]) 80 rfl Try.underlying37 info63 rfl (by decide) (by omega) u433001 x433001_2 (⟨t434,t435,t436,t437,t438,t439,t440⟩ : S63) [.int .i64 t434,.int .i64 t435,.int .i64 t436,.int .i64 t437,.string t438,.string t439,.string t440] (fun k_ => k_ ≠ gb442) (fun _ => False) rfl (by first | (go_simp;done) | (go_simp;rfl)) ?aP (fun _ hk => hk.elim) ?aF ?aO ?aB ?aS ?aL ?_;(case aP => exact k63_mkM _ _ _ (⟨t434,t435,t436,t437,t438,t439,t440⟩ : S63));(case aB => exact (zl_ HB));(case aF => exact (fun k_ hk => Kd.freshB (g := gb442) (o := .cells #[.int .i64 t434,.int .i64 t435,.int .i64 t436,.int .i64 t437,.string t438,.string t439,.string t440] 63 (0,0)) (zq BK442) k_ hk));(case aO => exact (by (with_reducible repeat (first | apply r1_ | apply r2_ | apply r3_));exact Kd.R_mono (Kd.Rf (Kd.Rf (Kd.Rf (Kd.Rf (Kd.Rf (Kd.Rf (Kd.Rf (Kd.R_mono HO_433001.out (fun k_ hk => (⟨hk,hk.2⟩ : _ ∧ k_ ≠ gb442)))))))))) (fun _ hk => hk.1.2)));(case aS => exact (below_size (zl_ HB)));(case aL => have := LMc24.out;omega);intro v444 w32 ho hb hg hat;rw [← Ny443.out] at ho;replace HO_4 := am_ (Kd.R_over' (by (with_reducible repeat (first | apply r1_ | apply r2_ | apply r3_));exact (Kd.R_mono (zrf (Kd.R_types HO_4.out BK442.out (by decide))) (fun _ h_ => h_.1))) (Kd.R_typed (by (with_reducible repeat (first | apply r1_ | apply r2_ | apply r3_));exact (Kd.R_mono (Kd.Rf (Kd.Rf (Kd.Rf (Kd.Rf (Kd.Rf (Kd.Rf (Kd.Rf (Kd.R_mono HO_433001.out (fun k_ hk => (⟨hk,hk.2⟩ : _ ∧ k_ ≠ gb442)))))))))) (fun _ h_ => h_.1)))) (by decide) hg);replace BK422 := am_ (blk_grown (g := gb422) (o := .cells #[.string x423000_2,.slice none 0 0] 39 (0,0)) (zq BK422) hg (Kd.R_ne HO_433001.out BK422.out (by decide)));replace BK432 := am_ (blk_grown (g := gb432) (o := .cells #[.string (rdOf ByteArray.empty t423 0),u433001] 39 (0,0)) (zq BK432) hg (Kd.R_ne HO_433001.out BK432.out (by decide)));replace HB := am_ (hb);have HO445 := am_ (ho);clear HO_433001;clear ho hb hg hat;obtain ⟨Ao33,co33,eo33⟩ := Kd.R_slice HO445.out;subst eo33;obtain ⟨hcz34_0,hcz34_1,hfz34_0,hfz34_1⟩ := zc2 BK432))
            go_roundg k2
            case measure => have := HJ2.out;have := HK2.out;omega
            case rel => exact ⟨(wrap64 (x7_2 + 1)),(x423000_2),(y443),(.slice Ao33 y443.length co33),(by first | rfl | (simp;done) | (simp [*];done)),H',⟨by have := HJ2.out;have := HK2.out;omega⟩,⟨by (with_reducible repeat (first | apply r1_ | apply r2_ | apply r3_));exact Kd.R_mono (zrf (Kd.R_types HO_4.out BK432.out (by decide))) (fun _ hk => trivial)⟩,⟨by (with_reducible repeat (first | apply r1_ | apply r2_ | apply r3_));exact Kd.R_mono (zrf (Kd.R_types HO445.out BK432.out (by decide))) (fun _ hk => trivial)⟩,⟨zq BK422⟩,⟨zq BK432⟩,⟨zl_ HB⟩⟩
           ·rw [if_neg c24] at H
            exact absurd H (by simp)
          ·rw [if_neg c23] at H
           have c23b0 : (t434 == 2) = false := beq_eq_false_iff_ne.mpr c23
           have c23b1 : (t434 != 2) = true := bne_iff_ne.mpr c23
           simp only [Option.some.injEq,Prod.mk.injEq] at H
           obtain ⟨rfl,rfl,rfl⟩ := H
           have p433 : 0 ≤ (x7_2 : Int) := zo_
           have q433 : x7_2 < (t423.length : Int) := zo_
           obtain ⟨ad433,e433,hx433_0⟩ := Kd.at_string (Kd.R_reads' HO_4.out).2.2 x7_2 p433 q433
           obtain rfl : ad428 = ad433 := (by injection e433)
           replace p433 := eq_true p433
           replace q433 := eq_true q433
           go_wp2_with (first | ((with_reducible refine gate_callee (f := 73) rfl ?_);refine zgl (some 40) Try.func73 #[.string (rdOf ByteArray.empty t423 x7_2)] ?_;(with_reducible refine (spec_l02ReadMessage.calls k2 (rdOf ByteArray.empty t423 x7_2) t434 t435 t436 t437 t438 t439 t440 true _ A21.out).mono ?_);rintro e w35 ⟨rfl,hb⟩;refine ⟨_,rfl,?_⟩;replace BK422 := zb BK422 hb;replace BK432 := zb BK432 hb;replace HB := zs_ HB hb;(try clear hb);(try clear hb2);(try clear hk);(try clear hi)) | ((with_reducible refine gate_dst (N := 8) rfl ?_);(try (refine gate_guard (by rfl) ?_;dsimp only));refine zbx (N := 8) (cs := #[.int .i64 0,.int .i64 0,.int .i64 0,.int .i64 0,.string ⟨#[]⟩,.string ⟨#[]⟩,.string ⟨#[]⟩]) (t := 63) ?_;intro gb442 hg w36 hbox hb;have BK442 := am_ (hbox);have GW442 := zw_ HB hg;have GE442 := zw_ HB hg;replace HB := zs_ HB hb;have NB422_442 := zl hg BK422;have NB442_422 := zg hg BK422;replace BK422 := zb BK422 hb;have NB432_442 := zl hg BK432;have NB442_432 := zg hg BK432;clear hb hbox hg;have hnb37 := NB442_422.out;have hnc37 := NB422_442.out;have hnb38 := NB442_432.out;have hnc38 := NB432_442.out;obtain ⟨hcz39_0,hcz39_1,hcz39_2,hcz39_3,hcz39_4,hcz39_5,hcz39_6,hfz39_0,hfz39_1,hfz39_2,hfz39_3,hfz39_4,hfz39_5,hfz39_6⟩ := zc7 BK442;have hnb40 := NB422_432.out;have hnc40 := NB432_422.out;obtain ⟨hcz41_0,hcz41_1,hfz41_0,hfz41_1⟩ := zc2 BK422))
           refine bodyPost_ret (results_ct rfl _ _ gb422 39 #[.string ⟨#[]⟩,.slice none 0 0] (0,0) _ rfl (zq BK422) Try.underlying39 rfl (by kernel_rfl)) rfl ?_
           exact ⟨_,zt_,by first | exact Kd.R_nil _ _ _ _ _ | exact Kd.N_nil _ _ _ _ _ | exact Kd.V_nil _ _ _ _ _ | exact Kd.Q_nil _ _ _ _ _ | exact Kd.S_nil _ _ _ _ _,zl_ HB⟩
         ·replace c22 := Bool.eq_false_iff.mpr c22
          subst c22
          have H1 : (some ((⟨#[]⟩ : ByteArray),([] : List (S63)),false)) = some (r1,r2,r3) := by rw [if_neg (show ¬ (false = true) by decide)] at H;exact H
          clear H
          have H := H1
          clear H1
          simp only [Option.some.injEq,Prod.mk.injEq] at H
          obtain ⟨rfl,rfl,rfl⟩ := H
          have p433 : 0 ≤ (x7_2 : Int) := zo_
          have q433 : x7_2 < (t423.length : Int) := zo_
          obtain ⟨ad433,e433,hx433_0⟩ := Kd.at_string (Kd.R_reads' HO_4.out).2.2 x7_2 p433 q433
          obtain rfl : ad428 = ad433 := (by injection e433)
          replace p433 := eq_true p433
          replace q433 := eq_true q433
          go_wp2_with (first | ((with_reducible refine gate_callee (f := 73) rfl ?_);refine zgl (some 40) Try.func73 #[.string (rdOf ByteArray.empty t423 x7_2)] ?_;(with_reducible refine (spec_l02ReadMessage.calls k2 (rdOf ByteArray.empty t423 x7_2) t434 t435 t436 t437 t438 t439 t440 false _ A21.out).mono ?_);rintro e w42 ⟨rfl,hb⟩;refine ⟨_,rfl,?_⟩;replace BK422 := zb BK422 hb;replace BK432 := zb BK432 hb;replace HB := zs_ HB hb;(try clear hb);(try clear hb2);(try clear hk);(try clear hi)) | ((with_reducible refine gate_dst (N := 8) rfl ?_);(try (refine gate_guard (by rfl) ?_;dsimp only));refine zbx (N := 8) (cs := #[.int .i64 0,.int .i64 0,.int .i64 0,.int .i64 0,.string ⟨#[]⟩,.string ⟨#[]⟩,.string ⟨#[]⟩]) (t := 63) ?_;intro gb442 hg w43 hbox hb;have BK442 := am_ (hbox);have GW442 := zw_ HB hg;have GE442 := zw_ HB hg;replace HB := zs_ HB hb;have NB422_442 := zl hg BK422;have NB442_422 := zg hg BK422;replace BK422 := zb BK422 hb;have NB432_442 := zl hg BK432;have NB442_432 := zg hg BK432;clear hb hbox hg;have hnb44 := NB442_422.out;have hnc44 := NB422_442.out;have hnb45 := NB442_432.out;have hnc45 := NB432_442.out;obtain ⟨hcz46_0,hcz46_1,hcz46_2,hcz46_3,hcz46_4,hcz46_5,hcz46_6,hfz46_0,hfz46_1,hfz46_2,hfz46_3,hfz46_4,hfz46_5,hfz46_6⟩ := zc7 BK442;have hnb47 := NB422_432.out;have hnc47 := NB432_422.out;obtain ⟨hcz48_0,hcz48_1,hfz48_0,hfz48_1⟩ := zc2 BK422))
          refine bodyPost_ret (results_ct rfl _ _ gb422 39 #[.string ⟨#[]⟩,.slice none 0 0] (0,0) _ rfl (zq BK422) Try.underlying39 rfl (by kernel_rfl)) rfl ?_
          exact ⟨_,zt_,by first | exact Kd.R_nil _ _ _ _ _ | exact Kd.N_nil _ _ _ _ _ | exact Kd.V_nil _ _ _ _ _ | exact Kd.Q_nil _ _ _ _ _ | exact Kd.S_nil _ _ _ _ _,zl_ HB⟩
        ·rw [if_neg c20] at H
         exact absurd H (by simp)
       ·rw [if_neg c19] at H
        have c19b0 : decide (x7_2 < (t423.length : Int)) = false := decide_eq_false c19
        clear c19
        simp only [Option.some.injEq,Prod.mk.injEq] at H
        obtain ⟨rfl,rfl,rfl⟩ := H
        have hnb49 := NB432_422.out
        have hnc49 := NB422_432.out
        obtain ⟨hcz50_0,hcz50_1,hfz50_0,hfz50_1⟩ := zc2 BK432
        obtain ⟨hcz51_0,hcz51_1,hfz51_0,hfz51_1⟩ := zc2 BK422
        obtain ⟨Ao52,co52,eo52⟩ := Kd.R_slice HO_433001.out
        subst eo52
        go_wp2
        refine bodyPost_ret (results_ct rfl _ _ gb422 39 #[.string (rdOf ByteArray.empty t423 0),.slice Ao52 x433001_2.length co52] (0,0) _ rfl (zq BK422) Try.underlying39 rfl (by kernel_rfl)) rfl ?_
        exact ⟨_,zt_,by (with_reducible repeat (first | apply r1_ | apply r2_ | apply r3_));exact Kd.R_mono (zrf (Kd.R_types HO_433001.out BK422.out (by decide))) (fun _ hk => trivial),zl_ HB⟩
    ·rw [if_neg c11] at H
     exact absurd H (by simp)
set_option maxHeartbeats 8000000 in
set_option maxRecDepth 100000 in
theorem spec_ReadCert.calls (k : Nat) (A0 : Option Addr) (c0 : Nat) (l0 : List Int) (r1 : ByteArray) (r2 : List (S63)) (r3 : Int) (w : World) (hr0 : Kd.C (Kd.int .u8) w A0 l0.length l0) (hc0 : l0.length ≤ c0) (h : spec_ReadCert.f k l0 = some (r1,r2,r3)) :
  Calls Try.prog 22 #[.slice A0 l0.length c0] w fun e w' => ∃ v1_ : Value,e = .returned (.tuple #[.agg #[.string r1,v1_],.int .i64 r3]) ∧ Kd.R k63 63 w' w.heap.size (fun _ => True) v1_ r2 ∧ Below w.heap.size w w' := by
 have hu39 := Try.underlying39
 have HR0 := am_ hr0
 have HC0 := am_ hc0
 clear hr0 hc0
 have HB := am_ (Below.refl w.heap.size w)
 have H : (if (l0.length : Int) > 65536 then (some ((⟨#[]⟩ : ByteArray),([] : List (S63)),2)) else ((spec_l06Read.f k (strOfNums l0)).bind fun bt447 => (if bt447.2.2 = true then (some (bt447.1,bt447.2.1,0)) else (some ((⟨#[]⟩ : ByteArray),([] : List (S63)),3))))) = some (r1,r2,r3) := h
 clear h
 by_cases c2 : (l0.length : Int) > 65536
 ·rw [if_pos c2] at H
  have c2b0 : decide (65536 < (l0.length : Int)) = true := decide_eq_true c2
  have c2b1 : decide (65536 < l0.length) = true := decide_eq_true (by omega)
  clear c2
  simp only [Option.some.injEq,Prod.mk.injEq] at H
  obtain ⟨rfl,rfl,rfl⟩ := H
  go_enter Try.func22,Try.ntmps22
  go_wp2_with (first | ((with_reducible refine gate_dst (N := 2) rfl ?_);refine zbx (N := 2) (cs := #[.string ⟨#[]⟩,.slice none 0 0]) (t := 39) ?_;intro gb446 hg w3 hbox hb;have BK446 := am_ (hbox);have GW446 := zw_ HB hg;have GE446 := zw_ HB hg;replace HB := zs_ HB hb;clear hb hbox hg;obtain ⟨hcz4_0,hcz4_1,hfz4_0,hfz4_1⟩ := zc2 BK446))
  refine bodyPost_ret (results_ct rfl _ _ gb446 39 #[.string ⟨#[]⟩,.slice none 0 0] (0,0) _ rfl (zq BK446) Try.underlying39 rfl (by kernel_rfl)) rfl ?_
  exact ⟨_,zt_,by first | exact Kd.R_nil _ _ _ _ _ | exact Kd.N_nil _ _ _ _ _ | exact Kd.V_nil _ _ _ _ _ | exact Kd.Q_nil _ _ _ _ _ | exact Kd.S_nil _ _ _ _ _,zl_ HB⟩
 ·rw [if_neg c2] at H
  have c2b0 : decide (65536 < (l0.length : Int)) = false := decide_eq_false c2
  have c2b1 : decide (65536 < l0.length) = false := decide_eq_false (by omega)
  clear c2
  replace H := Option.bind_eq_some_iff.mp H
  obtain ⟨⟨t447,t448,t451⟩,A50,H⟩ := H
  try dsimp only at H
  have A5 := am_ A50
  clear A50
  by_cases c6 : t451 = true
  ·subst c6
   have H1 : (some (t447,t448,0)) = some (r1,r2,r3) := by rw [if_pos rfl] at H;exact H
   clear H
   have H := H1
   clear H1
   simp only [Option.some.injEq,Prod.mk.injEq] at H
   obtain ⟨rfl,rfl,rfl⟩ := H
   go_enter Try.func22,Try.ntmps22
   go_wp2_with (first | ((with_reducible refine gate_dst (N := 2) rfl ?_);refine zbx (N := 2) (cs := #[.string ⟨#[]⟩,.slice none 0 0]) (t := 39) ?_;intro gb446 hg w7 hbox hb;have BK446 := am_ (hbox);have GW446 := zw_ HB hg;have GE446 := zw_ HB hg;replace HB := zs_ HB hb;clear hb hbox hg;have hcv8 := Kd.C_string (P := Try.prog) (A := A0) (c := c0) Try.underlying24 Try.underlying5 Try.underlying9 (Kd.C_below HR0.out HB.out)) | ((with_reducible refine gate_callee (f := 44) rfl ?_);refine zgl (some 13) Try.func44 #[.string (strOfNums l0)] ?_;(with_reducible refine (spec_l06Read.calls k (strOfNums l0) t447 t448 true _ A5.out).mono ?_);rintro e w9 ⟨v449,rfl,ho0,hb⟩;refine ⟨_,rfl,?_⟩;have HO450 := am_ (Kd.R_lower ho0 (below_size (zl_ HB)));replace BK446 := zb BK446 hb;replace HB := zs_ HB hb;(try clear hb);(try clear hb2);(try clear hk);(try clear hi);(try clear ho0)) | ((with_reducible refine gate_dst (N := 4) rfl ?_);refine zbx (N := 4) (cs := #[.string ⟨#[]⟩,.slice none 0 0]) (t := 39) ?_;intro gb452 hg w10 hbox hb;replace HO450 := zrb HO450 hb;have BK452 := am_ (hbox);have GW452 := zw_ HB hg;have GE452 := zw_ HB hg;replace HB := zs_ HB hb;have NB446_452 := zl hg BK446;have NB452_446 := zg hg BK446;replace BK446 := zb BK446 hb;clear hb hbox hg;have hnb11 := NB452_446.out;have hnc11 := NB446_452.out;obtain ⟨hcz12_0,hcz12_1,hfz12_0,hfz12_1⟩ := zc2 BK452;obtain ⟨Ao13,co13,eo13⟩ := Kd.R_slice HO450.out;subst eo13;obtain ⟨hcz14_0,hcz14_1,hfz14_0,hfz14_1⟩ := zc2 BK446))
   refine bodyPost_ret (results_ct rfl _ _ gb446 39 #[.string t447,.slice Ao13 t448.length co13] (0,0) _ rfl (zq BK446) Try.underlying39 rfl (by kernel_rfl)) rfl ?_
   exact ⟨_,zt_,by (with_reducible repeat (first | apply r1_ | apply r2_ | apply r3_));exact Kd.R_mono (Kd.Rf (Kd.Rf (Kd.R_far (p := ⟨gb452,1,none⟩) (Kd.R_far (p := ⟨gb452,0,none⟩) (Kd.R_types (Kd.R_types HO450.out BK452.out (by decide)) BK446.out (by decide)) (fun _ hk => hk.1.2) (.string t447)) (fun _ hk => hk.1.2) (.slice Ao13 t448.length co13)))) (fun _ hk => trivial),zl_ HB⟩
  ·replace c6 := Bool.eq_false_iff.mpr c6
   subst c6
   have H1 : (some ((⟨#[]⟩ : ByteArray),([] : List (S63)),3)) = some (r1,r2,r3) := by rw [if_neg (show ¬ (false = true) by decide)] at H;exact H
   clear H
   have H := H1
   clear H1
   simp only [Option.some.injEq,Prod.mk.injEq] at H
   obtain ⟨rfl,rfl,rfl⟩ := H
   go_enter Try.func22,Try.ntmps22
   go_wp2_with (first | ((with_reducible refine gate_dst (N := 2) rfl ?_);refine zbx (N := 2) (cs := #[.string ⟨#[]⟩,.slice none 0 0]) (t := 39) ?_;intro gb446 hg w15 hbox hb;have BK446 := am_ (hbox);have GW446 := zw_ HB hg;have GE446 := zw_ HB hg;replace HB := zs_ HB hb;clear hb hbox hg;have hcv16 := Kd.C_string (P := Try.prog) (A := A0) (c := c0) Try.underlying24 Try.underlying5 Try.underlying9 (Kd.C_below HR0.out HB.out)) | ((with_reducible refine gate_callee (f := 44) rfl ?_);refine zgl (some 13) Try.func44 #[.string (strOfNums l0)] ?_;(with_reducible refine (spec_l06Read.calls k (strOfNums l0) t447 t448 false _ A5.out).mono ?_);rintro e w17 ⟨v449,rfl,ho0,hb⟩;refine ⟨_,rfl,?_⟩;have HO450 := am_ (Kd.R_lower ho0 (below_size (zl_ HB)));replace BK446 := zb BK446 hb;replace HB := zs_ HB hb;(try clear hb);(try clear hb2);(try clear hk);(try clear hi);(try clear ho0)) | ((with_reducible refine gate_dst (N := 4) rfl ?_);refine zbx (N := 4) (cs := #[.string ⟨#[]⟩,.slice none 0 0]) (t := 39) ?_;intro gb452 hg w18 hbox hb;replace HO450 := zrb HO450 hb;have BK452 := am_ (hbox);have GW452 := zw_ HB hg;have GE452 := zw_ HB hg;replace HB := zs_ HB hb;have NB446_452 := zl hg BK446;have NB452_446 := zg hg BK446;replace BK446 := zb BK446 hb;clear hb hbox hg;have hnb19 := NB452_446.out;have hnc19 := NB446_452.out;obtain ⟨hcz20_0,hcz20_1,hfz20_0,hfz20_1⟩ := zc2 BK452;obtain ⟨Ao21,co21,eo21⟩ := Kd.R_slice HO450.out;subst eo21;obtain ⟨hcz22_0,hcz22_1,hfz22_0,hfz22_1⟩ := zc2 BK446))
   refine bodyPost_ret (results_ct rfl _ _ gb446 39 #[.string ⟨#[]⟩,.slice none 0 0] (0,0) _ rfl (zq BK446) Try.underlying39 rfl (by kernel_rfl)) rfl ?_
   exact ⟨_,zt_,by first | exact Kd.R_nil _ _ _ _ _ | exact Kd.N_nil _ _ _ _ _ | exact Kd.V_nil _ _ _ _ _ | exact Kd.Q_nil _ _ _ _ _ | exact Kd.S_nil _ _ _ _ _,zl_ HB⟩
set_option maxHeartbeats 8000000 in
set_option maxRecDepth 100000 in
theorem laws_FnExactReadCert.calls (k : Nat) (A0 : Option Addr) (c0 : Nat) (l0 : List Int) (r : Bool) (w : World) (hr0 : Kd.C (Kd.int .u8) w A0 l0.length l0) (hc0 : l0.length ≤ c0) (h : laws_FnExactReadCert.f k l0 = some r) :
  Calls Try.prog 5 #[.slice A0 l0.length c0] w fun e w' => e = .returned (.bool r) ∧ Below w.heap.size w w' := by
 have hu39 := Try.underlying39
 have HR0 := am_ hr0
 have HC0 := am_ hc0
 clear hr0 hc0
 have HB := am_ (Below.refl w.heap.size w)
 have H : (if (l0.length : Int) > 1048576 then (some true) else ((laws_toByteS.f k l0).bind fun t559 => ((spec_ReadCert.f k t559).bind fun bt562 => ((laws_toByteS.f k l0).bind fun t568 => ((impl_ReadCert.f k t568).bind fun bt571 => ((laws_eqCert.f k bt571.1 bt571.2.1 bt562.1 bt562.2.1).bind fun t577 => (if t577 = true then (laws_FnExactReadCert.j0 k l0 bt562.2.2 t568 bt571.2.2 (bt571.2.2 != bt562.2.2) bt562.1 bt562.2.1 bt571.1 bt571.2.1) else (laws_FnExactReadCert.j0 k l0 bt562.2.2 t568 bt571.2.2 true bt562.1 bt562.2.1 bt571.1 bt571.2.1)))))))) = some r := h
 clear h
 by_cases c2 : (l0.length : Int) > 1048576
 ·rw [if_pos c2] at H
  have c2b0 : decide (1048576 < (l0.length : Int)) = true := decide_eq_true c2
  have c2b1 : decide (1048576 < l0.length) = true := decide_eq_true (by omega)
  clear c2
  obtain rfl := Option.some.inj H
  go_enter Try.func5,Try.ntmps5
  go_wp2
  go_ret
  exact ⟨zt_,zl_ HB⟩
 ·rw [if_neg c2] at H
  have c2b0 : decide (1048576 < (l0.length : Int)) = false := decide_eq_false c2
  have c2b1 : decide (1048576 < l0.length) = false := decide_eq_false (by omega)
  clear c2
  replace H := Option.bind_eq_some_iff.mp H
  obtain ⟨t559,A30,H⟩ := H
  try dsimp only at H
  have A3 := am_ A30
  clear A30
  replace H := Option.bind_eq_some_iff.mp H
  obtain ⟨⟨t562,t563,t566⟩,A40,H⟩ := H
  try dsimp only at H
  have A4 := am_ A40
  clear A40
  replace H := Option.bind_eq_some_iff.mp H
  obtain ⟨t568,A50,H⟩ := H
  try dsimp only at H
  have A5 := am_ A50
  clear A50
  replace H := Option.bind_eq_some_iff.mp H
  obtain ⟨⟨t571,t572,t575⟩,A60,H⟩ := H
  try dsimp only at H
  have A6 := am_ A60
  clear A60
  have HC7 := am_ H
  clear H
  go_enter Try.func5,Try.ntmps5
  go_upto_region 6 with (first | ((with_reducible refine gate_callee (f := 23) rfl ?_);refine zgl (some 18) Try.func23 #[.slice A0 l0.length c0] ?_;(with_reducible refine (laws_toByteS.calls k _ _ l0 t559 _ ?side1 ?side2 A3.out).mono ?_);(case side1 => repeat (first | exact HR0.out | (with_reducible refine Kd.C_alloc ?_ _) | (with_reducible refine Kd.C_drewN ?_ _) | (with_reducible refine Kd.C_drew ?_)));(case side2 => exact HC0.out);rintro e w8 ⟨v560,rfl,ho0,hb⟩;refine ⟨_,rfl,?_⟩;have HO561 := am_ (Kd.R_lower ho0 (below_size (zl_ HB)));replace HB := zs_ HB hb;(try clear hb);(try clear hb2);(try clear hk);(try clear hi);(try clear ho0);obtain ⟨Ao9,co9,eo9⟩ := Kd.R_slice HO561.out;subst eo9) | ((with_reducible refine gate_callee (f := 22) rfl ?_);refine zgl (some 19) Try.func22 #[.slice Ao9 t559.length co9] ?_;(with_reducible refine (spec_ReadCert.calls k _ _ t559 t562 t563 t566 _ ?side1 ?side2 A4.out).mono ?_);(case side1 => repeat (first | exact (Kd.R_reads' HO561.out).2.2 | (with_reducible refine Kd.C_alloc ?_ _) | (with_reducible refine Kd.C_drewN ?_ _) | (with_reducible refine Kd.C_drew ?_)));(case side2 => exact (Kd.R_reads' HO561.out).2.1);rintro e w10 ⟨v564,rfl,ho0,hb⟩;refine ⟨_,rfl,?_⟩;replace HO561 := zrb HO561 hb;have HO565 := am_ (Kd.R_lower ho0 (below_size (zl_ HB)));replace HB := zs_ HB hb;(try clear hb);(try clear hb2);(try clear hk);(try clear hi);(try clear ho0)) | ((with_reducible refine gate_dst (N := 3) rfl ?_);refine zbx (N := 3) (cs := #[.string ⟨#[]⟩,.slice none 0 0]) (t := 39) ?_;intro gb567 hg w11 hbox hb;replace HO561 := zrb HO561 hb;replace HO565 := zrb HO565 hb;have BK567 := am_ (hbox);have GW567 := zw_ HB hg;have GE567 := zw_ HB hg;replace HB := zs_ HB hb;clear hb hbox hg;obtain ⟨hcz12_0,hcz12_1,hfz12_0,hfz12_1⟩ := zc2 BK567;obtain ⟨Ao13,co13,eo13⟩ := Kd.R_slice HO565.out;subst eo13) | ((with_reducible refine gate_callee (f := 23) rfl ?_);refine zgl (some 23) Try.func23 #[.slice A0 l0.length c0] ?_;(with_reducible refine (laws_toByteS.calls k _ _ l0 t568 _ ?side1 ?side2 A5.out).mono ?_);(case side1 => exact Kd.C_below HR0.out (zl_ HB));(case side2 => exact HC0.out);rintro e w14 ⟨v569,rfl,ho0,hb⟩;refine ⟨_,rfl,?_⟩;replace HO565 := am_ (Kd.R_below (by (with_reducible repeat (first | apply r1_ | apply r2_ | apply r3_));exact (Kd.R_mono (zrf (Kd.R_types HO565.out BK567.out (by decide))) (fun _ h_ => h_.1))) hb);have HO570 := am_ (Kd.R_lower (Kd.R_new' ho0 (Kd.R_lt (by (with_reducible repeat (first | apply r1_ | apply r2_ | apply r3_));exact (Kd.R_mono (zrf (Kd.R_types HO561.out BK567.out (by decide))) (fun _ h_ => h_.1))))) (below_size (zl_ HB)));replace BK567 := am_ (blk_below (g := gb567) (o := .cells #[.string t562,.slice Ao13 t563.length co13] 39 (0,0)) (zq BK567) hb);replace HB := zs_ HB hb;(try clear hb);(try clear hb2);(try clear hk);(try clear hi);(try clear ho0);obtain ⟨Ao15,co15,eo15⟩ := Kd.R_slice HO570.out;subst eo15) | ((with_reducible refine gate_callee (f := 24) rfl ?_);refine zgl (some 26) Try.func24 #[.slice Ao15 t568.length co15] ?_;(with_reducible refine (impl_ReadCert.calls k _ _ t568 t571 t572 t575 _ ?side1 ?side2 A6.out).mono ?_);(case side1 => repeat (first | exact (Kd.R_reads' HO570.out).2.2 | (with_reducible refine Kd.C_alloc ?_ _) | (with_reducible refine Kd.C_drewN ?_ _) | (with_reducible refine Kd.C_drew ?_)));(case side2 => exact (Kd.R_reads' HO570.out).2.1);rintro e w16 ⟨v573,rfl,ho0,hb⟩;refine ⟨_,rfl,?_⟩;replace HO570 := zrb HO570 hb;have HO574 := am_ (Kd.R_lower (Kd.R_new' ho0 (Kd.R_lt (zr HO565))) (below_size (zl_ HB)));replace HO565 := am_ (Kd.R_elder' (zr HO565) (Kd.R_base ho0) hb);replace BK567 := zb BK567 hb;replace HB := zs_ HB hb;(try clear hb);(try clear hb2);(try clear hk);(try clear hi);(try clear ho0)) | ((with_reducible refine gate_dst (N := 6) rfl ?_);refine zbx (N := 6) (cs := #[.string ⟨#[]⟩,.slice none 0 0]) (t := 39) ?_;intro gb576 hg w17 hbox hb;replace HO565 := zrb HO565 hb;replace HO570 := zrb HO570 hb;replace HO574 := zrb HO574 hb;have BK576 := am_ (hbox);have GW576 := zw_ HB hg;have GE576 := zw_ HB hg;replace HB := zs_ HB hb;have NB567_576 := zl hg BK567;have NB576_567 := zg hg BK567;replace BK567 := zb BK567 hb;clear hb hbox hg;have hnb18 := NB576_567.out;have hnc18 := NB567_576.out;obtain ⟨hcz19_0,hcz19_1,hfz19_0,hfz19_1⟩ := zc2 BK576;obtain ⟨Ao20,co20,eo20⟩ := Kd.R_slice HO574.out;subst eo20))
  (try simp only [Act.put,p1_,p2_,p3_])
  go_cut [37] (fun v37 wc => ∃ (kq : Nat) (x37_6 : Bool),v37 = .bool x37_6 ∧ Aside0 (laws_FnExactReadCert.j0 kq l0 t566 t568 t575 x37_6 t562 t563 t571 t572 = some r) ∧ Aside0 (kq ≤ k) ∧ Aside0 (Kd.R (Kd.int .u8) 5 wc w.heap.size (fun _ => True) (.slice Ao15 t568.length co15) t568) ∧ Aside0 (Kd.R k63 63 wc w.heap.size (fun k_ => some k_ ≠ ((.slice Ao20 t572.length co20) : Value).ownBlock) (.slice Ao13 t563.length co13) t563) ∧ Aside0 (Kd.R k63 63 wc w.heap.size (fun k_ => some k_ ≠ ((.slice Ao13 t563.length co13) : Value).ownBlock) (.slice Ao20 t572.length co20) t572) ∧ Aside0 (wc.heap[gb567]? = some (.cells #[.string t562,(.slice Ao13 t563.length co13)] 39 (0,0))) ∧ Aside0 (wc.heap[gb576]? = some (.cells #[.string t571,(.slice Ao20 t572.length co20)] 39 (0,0))) ∧ Aside0 (Below w.heap.size w wc))
  case first =>
   have H := HC7.out
   clear HC7
   replace H := Option.bind_eq_some_iff.mp H
   obtain ⟨t577,A210,H⟩ := H
   try dsimp only at H
   have A21 := am_ A210
   clear A210
   by_cases c22 : t577 = true
   ·subst c22
    have H1 : (laws_FnExactReadCert.j0 k l0 t566 t568 t575 (t575 != t566) t562 t563 t571 t572) = some r := by rw [if_pos rfl] at H;exact H
    clear H
    have H := H1
    clear H1
    have H' := am_ H
    clear H
    have hnb23 := NB576_567.out
    have hnc23 := NB567_576.out
    obtain ⟨hcz24_0,hcz24_1,hfz24_0,hfz24_1⟩ := zc2 BK576
    obtain ⟨hcz25_0,hcz25_1,hfz25_0,hfz25_1⟩ := zc2 BK567
    go_wp2_with (first | ((with_reducible refine gate_callee (f := 20) rfl ?_);refine zgl (some 31) Try.func20 #[.agg #[.string t571,.slice Ao20 t572.length co20],.agg #[.string t562,.slice Ao13 t563.length co13]] ?_;(with_reducible refine (laws_eqCert.calls k t571 _ _ t572 t562 _ _ t563 true _ ?side1 ?side2 ?side3 ?side4 A21.out).mono ?_);(case side1 => refine (Kd.R_reads' (e := 63) (base := w.heap.size) (ok := fun k_ => (True ∧ some k_ ≠ (.slice Ao13 t563.length co13 : Value).ownBlock)) (n := t572.length) (c := co20) ?_).2.2;exact (by (with_reducible repeat (first | apply r1_ | apply r2_ | apply r3_));exact (Kd.R_mono (zrf (Kd.R_types HO574.out BK576.out (by decide))) (fun _ h_ => h_.1))));(case side2 => exact (Kd.R_reads' HO574.out).2.1);(case side3 => refine (Kd.R_reads' (e := 63) (base := w.heap.size) (ok := fun k_ => (True ∧ some k_ ≠ (.slice Ao20 t572.length co20 : Value).ownBlock)) (n := t563.length) (c := co13) ?_).2.2;exact (by (with_reducible repeat (first | apply r1_ | apply r2_ | apply r3_));exact (Kd.R_mono (zrf (Kd.R_types HO565.out BK576.out (by decide))) (fun _ h_ => h_.1))));(case side4 => exact (Kd.R_reads' HO565.out).2.1);rintro e w26 ⟨rfl,hb⟩;refine ⟨_,rfl,?_⟩;replace HO565 := am_ (Kd.R_below (by (with_reducible repeat (first | apply r1_ | apply r2_ | apply r3_));exact (Kd.R_mono (zrf (Kd.R_types HO565.out BK576.out (by decide))) (fun _ h_ => h_.1))) hb);replace HO570 := am_ (Kd.R_below (by (with_reducible repeat (first | apply r1_ | apply r2_ | apply r3_));exact (Kd.R_mono (zrf (Kd.R_types HO570.out BK576.out (by decide))) (fun _ h_ => h_.1))) hb);replace HO574 := am_ (Kd.R_below (by (with_reducible repeat (first | apply r1_ | apply r2_ | apply r3_));exact (Kd.R_mono (zrf (Kd.R_types HO574.out BK576.out (by decide))) (fun _ h_ => h_.1))) hb);replace BK567 := am_ (blk_below (g := gb567) (o := .cells #[.string t562,.slice Ao13 t563.length co13] 39 (0,0)) (zq BK567) hb);replace BK576 := am_ (blk_below (g := gb576) (o := .cells #[.string t571,.slice Ao20 t572.length co20] 39 (0,0)) (zq BK576) hb);replace HB := zs_ HB hb;(try clear hb);(try clear hb2);(try clear hk);(try clear hi)))
    go_meet
    case rel => exact ⟨_,((t575 != t566)),(by first | rfl | (simp;done) | (simp [*];done)),H',⟨by first | omega | exact Nat.le_refl _⟩,⟨by (with_reducible repeat (first | apply r1_ | apply r2_ | apply r3_));exact Kd.R_mono HO570.out (fun _ hk => trivial)⟩,⟨by (with_reducible repeat (first | apply r1_ | apply r2_ | apply r3_));exact Kd.R_mono HO565.out (fun _ hk => hk.2)⟩,⟨by (with_reducible repeat (first | apply r1_ | apply r2_ | apply r3_));exact Kd.R_mono HO574.out (fun _ hk => hk.2)⟩,⟨by (with_reducible repeat (first | apply k1_ | apply k2_ | apply k3_));exact BK567.out⟩,⟨by (with_reducible repeat (first | apply k1_ | apply k2_ | apply k3_));exact BK576.out⟩,⟨zl_ HB⟩⟩
   ·replace c22 := Bool.eq_false_iff.mpr c22
    subst c22
    have H1 : (laws_FnExactReadCert.j0 k l0 t566 t568 t575 true t562 t563 t571 t572) = some r := by rw [if_neg (show ¬ (false = true) by decide)] at H;exact H
    clear H
    have H := H1
    clear H1
    have H' := am_ H
    clear H
    have hnb27 := NB576_567.out
    have hnc27 := NB567_576.out
    obtain ⟨hcz28_0,hcz28_1,hfz28_0,hfz28_1⟩ := zc2 BK576
    obtain ⟨hcz29_0,hcz29_1,hfz29_0,hfz29_1⟩ := zc2 BK567
    go_wp2_with (first | ((with_reducible refine gate_callee (f := 20) rfl ?_);refine zgl (some 31) Try.func20 #[.agg #[.string t571,.slice Ao20 t572.length co20],.agg #[.string t562,.slice Ao13 t563.length co13]] ?_;(with_reducible refine (laws_eqCert.calls k t571 _ _ t572 t562 _ _ t563 false _ ?side1 ?side2 ?side3 ?side4 A21.out).mono ?_);(case side1 => refine (Kd.R_reads' (e := 63) (base := w.heap.size) (ok := fun k_ => (True ∧ some k_ ≠ (.slice Ao13 t563.length co13 : Value).ownBlock)) (n := t572.length) (c := co20) ?_).2.2;exact (by (with_reducible repeat (first | apply r1_ | apply r2_ | apply r3_));exact (Kd.R_mono (zrf (Kd.R_types HO574.out BK576.out (by decide))) (fun _ h_ => h_.1))));(case side2 => exact (Kd.R_reads' HO574.out).2.1);(case side3 => refine (Kd.R_reads' (e := 63) (base := w.heap.size) (ok := fun k_ => (True ∧ some k_ ≠ (.slice Ao20 t572.length co20 : Value).ownBlock)) (n := t563.length) (c := co13) ?_).2.2;exact (by (with_reducible repeat (first | apply r1_ | apply r2_ | apply r3_));exact (Kd.R_mono (zrf (Kd.R_types HO565.out BK576.out (by decide))) (fun _ h_ => h_.1))));(case side4 => exact (Kd.R_reads' HO565.out).2.1);rintro e w30 ⟨rfl,hb⟩;refine ⟨_,rfl,?_⟩;replace HO565 := am_ (Kd.R_below (by (with_reducible repeat (first | apply r1_ | apply r2_ | apply r3_));exact (Kd.R_mono (zrf (Kd.R_types HO565.out BK576.out (by decide))) (fun _ h_ => h_.1))) hb);replace HO570 := am_ (Kd.R_below (by (with_reducible repeat (first | apply r1_ | apply r2_ | apply r3_));exact (Kd.R_mono (zrf (Kd.R_types HO570.out BK576.out (by decide))) (fun _ h_ => h_.1))) hb);replace HO574 := am_ (Kd.R_below (by (with_reducible repeat (first | apply r1_ | apply r2_ | apply r3_));exact (Kd.R_mono (zrf (Kd.R_types HO574.out BK576.out (by decide))) (fun _ h_ => h_.1))) hb);replace BK567 := am_ (blk_below (g := gb567) (o := .cells #[.string t562,.slice Ao13 t563.length co13] 39 (0,0)) (zq BK567) hb);replace BK576 := am_ (blk_below (g := gb576) (o := .cells #[.string t571,.slice Ao20 t572.length co20] 39 (0,0)) (zq BK576) hb);replace HB := zs_ HB hb;(try clear hb);(try clear hb2);(try clear hk);(try clear hi)))
    go_meet
    case rel => exact ⟨_,(true),(by first | rfl | (simp;done) | (simp [*];done)),H',⟨by first | omega | exact Nat.le_refl _⟩,⟨by (with_reducible repeat (first | apply r1_ | apply r2_ | apply r3_));exact Kd.R_mono HO570.out (fun _ hk => trivial)⟩,⟨by (with_reducible repeat (first | apply r1_ | apply r2_ | apply r3_));exact Kd.R_mono HO565.out (fun _ hk => hk.2)⟩,⟨by (with_reducible repeat (first | apply r1_ | apply r2_ | apply r3_));exact Kd.R_mono HO574.out (fun _ hk => hk.2)⟩,⟨by (with_reducible repeat (first | apply k1_ | apply k2_ | apply k3_));exact BK567.out⟩,⟨by (with_reducible repeat (first | apply k1_ | apply k2_ | apply k3_));exact BK576.out⟩,⟨zl_ HB⟩⟩
  case rest =>
   clear HC7
   try clear c1
   try clear c2
   try clear c2b0
   try clear c2b1
   try clear p2
   try clear c5
   try clear c18
   try clear c20
   try clear c22
   try clear c23
   try clear c24
   try clear c27
   try clear hcz12_0
   try clear hcz12_1
   try clear hcz19_0
   try clear hcz19_1
   try clear hcz24_0
   try clear hcz24_1
   try clear hcz25_0
   try clear hcz25_1
   try clear hcz28_0
   try clear hcz28_1
   try clear hcz29_0
   try clear hcz29_1
   try clear hfz12_0
   try clear hfz12_1
   try clear hfz19_0
   try clear hfz19_1
   try clear hfz24_0
   try clear hfz24_1
   try clear hfz25_0
   try clear hfz25_1
   try clear hfz28_0
   try clear hfz28_1
   try clear hfz29_0
   try clear hfz29_1
   obtain ⟨kq,x37_6,rfl,HA,HJ6,HO_5,HO_568001,HO_577001,BK567,BK576,HB⟩ := hcut
   cases kq with
   | zero => exact absurd HA.out (by simp [laws_FnExactReadCert.j0])
   | succ kj6 =>
    have H := HA.out
    clear HA
    simp only [laws_FnExactReadCert.j0] at H
    by_cases c31 : x37_6 = true
    ·subst c31
     have H1 : (some false) = some r := by rw [if_pos rfl] at H;exact H
     clear H
     have H := H1
     clear H1
     obtain rfl := Option.some.inj H
     go_wp2
     go_ret
     exact ⟨zt_,zl_ HB⟩
    ·replace c31 := Bool.eq_false_iff.mpr c31
     subst c31
     have H1 : ((laws_toByteS.f kj6 l0).bind fun t578 => ((laws_eqByteS.f kj6 t568 t578).bind fun t581 => (if t581 = true then ((laws_markByteS.f kj6 t568 1).bind fun bt582 => (if bt582.1 < 0 then (laws_FnExactReadCert.j1 kj6 l0 t566 true t562 t563 t571 t572) else ((laws_eqCert.f kj6 t571 t572 t562 t563).bind fun t584 => (if t584 = true then (laws_FnExactReadCert.j1 kj6 l0 t566 (t575 != t566) t562 t563 t571 t572) else (laws_FnExactReadCert.j1 kj6 l0 t566 true t562 t563 t571 t572))))) else (some false)))) = some r := by rw [if_neg (show ¬ (false = true) by decide)] at H;exact H
     clear H
     have H := H1
     clear H1
     replace H := Option.bind_eq_some_iff.mp H
     obtain ⟨t578,A320,H⟩ := H
     try dsimp only at H
     have A32 := am_ A320
     clear A320
     replace H := Option.bind_eq_some_iff.mp H
     obtain ⟨t581,A330,H⟩ := H
     try dsimp only at H
     have A33 := am_ A330
     clear A330
     by_cases c34 : t581 = true
     ·subst c34
      have H1 : ((laws_markByteS.f kj6 t568 1).bind fun bt582 => (if bt582.1 < 0 then (laws_FnExactReadCert.j1 kj6 l0 t566 true t562 t563 t571 t572) else ((laws_eqCert.f kj6 t571 t572 t562 t563).bind fun t584 => (if t584 = true then (laws_FnExactReadCert.j1 kj6 l0 t566 (t575 != t566) t562 t563 t571 t572) else (laws_FnExactReadCert.j1 kj6 l0 t566 true t562 t563 t571 t572))))) = some r := by rw [if_pos rfl] at H;exact H
      clear H
      have H := H1
      clear H1
      replace H := Option.bind_eq_some_iff.mp H
      obtain ⟨⟨t582,t583⟩,A350,H⟩ := H
      try dsimp only at H
      have A35 := am_ A350
      clear A350
      have HC36 := am_ H
      clear H
      go_upto_region 12 with (first | ((with_reducible refine gate_callee (f := 23) rfl ?_);refine zgl (some 40) Try.func23 #[.slice A0 l0.length c0] ?_;(with_reducible refine (laws_toByteS.calls kj6 _ _ l0 t578 _ ?side1 ?side2 A32.out).mono ?_);(case side1 => exact zc_ HR0 HB);(case side2 => exact HC0.out);rintro e w37 ⟨v579,rfl,ho0,hb⟩;refine ⟨_,rfl,?_⟩;replace HO_568001 := zrb HO_568001 hb;replace HO_577001 := zrb HO_577001 hb;have HO580 := am_ (Kd.R_lower (Kd.R_new' ho0 (Kd.R_lt (zr HO_5))) (below_size (zl_ HB)));replace HO_5 := am_ (Kd.R_elder' (zr HO_5) (Kd.R_base ho0) hb);replace BK567 := zb BK567 hb;replace BK576 := zb BK576 hb;replace HB := zs_ HB hb;(try clear hb);(try clear hb2);(try clear hk);(try clear hi);(try clear ho0);obtain ⟨Ao38,co38,eo38⟩ := Kd.R_slice HO580.out;subst eo38) | ((with_reducible refine gate_callee (f := 11) rfl ?_);refine zgl (some 41) Try.func11 #[.slice Ao15 t568.length co15,.slice Ao38 t578.length co38] ?_;(with_reducible refine (laws_eqByteS.calls kj6 _ _ t568 _ _ t578 true _ ?side1 ?side2 ?side3 ?side4 A33.out).mono ?_);(case side1 => repeat (first | exact (Kd.R_reads' HO_5.out).2.2 | (with_reducible refine Kd.C_alloc ?_ _) | (with_reducible refine Kd.C_drewN ?_ _) | (with_reducible refine Kd.C_drew ?_)));(case side2 => exact (Kd.R_reads' HO_5.out).2.1);(case side3 => repeat (first | exact (Kd.R_reads' HO580.out).2.2 | (with_reducible refine Kd.C_alloc ?_ _) | (with_reducible refine Kd.C_drewN ?_ _) | (with_reducible refine Kd.C_drew ?_)));(case side4 => exact (Kd.R_reads' HO580.out).2.1);rintro e w' ⟨rfl,⟨nd,rfl⟩⟩;refine ⟨_,rfl,?_⟩) | ((with_reducible refine gate_callee (f := 14) rfl ?_);refine zgl (some 45) Try.func14 #[.slice Ao15 t568.length co15,.int .i64 1] ?_;(with_reducible refine (laws_markByteS.calls kj6 (fun k_ => some k_ = (.slice Ao15 t568.length co15 : Value).ownBlock) (.slice Ao15 t568.length co15) t568 1 t582 t583 w _ ?side1 ?side2 A35.out).mono ?_);(case side1 => exact zl_ HB);(case side2 => exact Kd.R_tight rfl HO_5.out);rintro e w39 ⟨rfl,hy0,hb,hkp⟩;refine ⟨_,rfl,?_⟩;replace HO_568001 := am_ (Kd.R_mono (ok' := fun k_ => some k_ ≠ (.slice Ao20 t572.length co20 : Value).ownBlock) (Kd.R_keptB ((Kd.R_apart' HO_568001.out (Kd.R_typed HO_5.out) (by decide))) hkp (fun k_ hk_ hs_ => (hk_.2) hs_)) (fun k_ hk_ => hk_.1.1));replace HO_577001 := am_ (Kd.R_mono (ok' := fun k_ => some k_ ≠ (.slice Ao13 t563.length co13 : Value).ownBlock) (Kd.R_keptB ((Kd.R_apart' HO_577001.out (Kd.R_typed HO_5.out) (by decide))) hkp (fun k_ hk_ hs_ => (hk_.2) hs_)) (fun k_ hk_ => hk_.1.1));replace BK567 := am_ (blk_kept (zk BK567) hkp (fun hs_ => (fun e_ => (Kd.R_ne HO_5.out BK567.out (by decide)) e_) hs_));replace BK576 := am_ (blk_kept (zk BK576) hkp (fun hs_ => (fun e_ => (Kd.R_ne HO_5.out BK576.out (by decide)) e_) hs_));replace HO_5 := am_ (Kd.R_reok rfl hy0 (fun k_ e_ => HO_5.out.1 k_ e_));replace HO580 := am_ (Kd.R_mono (ok' := fun k_ => some k_ ≠ (.slice Ao15 t568.length co15 : Value).ownBlock) (Kd.R_keptB (HO580.out) hkp (fun k_ hk_ hs_ => (hk_.2) hs_)) (fun k_ hk_ => hk_.1.2));replace HB := am_ (hb);(try clear hb);(try clear hkp);(try clear hy0)))
      (try simp only [Act.put,p1_,p2_,p3_])
      go_cut [58] (fun v58 wc => ∃ (kq : Nat) (x58_35 : Bool),v58 = .bool x58_35 ∧ Aside0 (laws_FnExactReadCert.j1 kq l0 t566 x58_35 t562 t563 t571 t572 = some r) ∧ Aside0 (kq ≤ kj6) ∧ Aside0 (Kd.R k63 63 wc w.heap.size (fun k_ => some k_ ≠ ((.slice Ao20 t572.length co20) : Value).ownBlock) (.slice Ao13 t563.length co13) t563) ∧ Aside0 (Kd.R k63 63 wc w.heap.size (fun k_ => some k_ ≠ ((.slice Ao13 t563.length co13) : Value).ownBlock) (.slice Ao20 t572.length co20) t572) ∧ Aside0 (wc.heap[gb567]? = some (.cells #[.string t562,(.slice Ao13 t563.length co13)] 39 (0,0))) ∧ Aside0 (wc.heap[gb576]? = some (.cells #[.string t571,(.slice Ao20 t572.length co20)] 39 (0,0))) ∧ Aside0 (Below w.heap.size w wc))
      case first =>
       have H := HC36.out
       clear HC36
       by_cases c40 : t582 < 0
       ·rw [if_pos c40] at H
        have c40b0 : decide (t582 < 0) = true := decide_eq_true c40
        clear c40
        (first | rw [c40b0] | (simp only [i64_w,i32_w];rw [c40b0]) | skip)
        have H' := am_ H
        clear H
        go_wp2
        go_meet
        case rel => exact ⟨_,(true),(by first | rfl | (simp;done) | (simp [*];done)),H',⟨by have := HJ6.out;first | omega | exact Nat.le_refl _⟩,⟨zr HO_568001⟩,⟨zr HO_577001⟩,⟨by (with_reducible repeat (first | apply k1_ | apply k2_ | apply k3_));exact BK567.out⟩,⟨by (with_reducible repeat (first | apply k1_ | apply k2_ | apply k3_));exact BK576.out⟩,⟨zl_ HB⟩⟩
       ·rw [if_neg c40] at H
        have c40b0 : decide (t582 < 0) = false := decide_eq_false c40
        clear c40
        (first | rw [c40b0] | (simp only [i64_w,i32_w];rw [c40b0]) | skip)
        replace H := Option.bind_eq_some_iff.mp H
        obtain ⟨t584,A410,H⟩ := H
        try dsimp only at H
        have A41 := am_ A410
        clear A410
        by_cases c42 : t584 = true
        ·subst c42
         have H1 : (laws_FnExactReadCert.j1 kj6 l0 t566 (t575 != t566) t562 t563 t571 t572) = some r := by rw [if_pos rfl] at H;exact H
         clear H
         have H := H1
         clear H1
         have H' := am_ H
         clear H
         have hnb43 := NB576_567.out
         have hnc43 := NB567_576.out
         obtain ⟨hcz44_0,hcz44_1,hfz44_0,hfz44_1⟩ := zc2 BK576
         obtain ⟨hcz45_0,hcz45_1,hfz45_0,hfz45_1⟩ := zc2 BK567
         go_wp2_with (first | (go_at_call 20;(with_reducible refine (laws_eqCert.calls kj6 t571 _ _ t572 t562 _ _ t563 true _ ?side1 ?side2 ?side3 ?side4 A41.out).mono ?_);(case side1 => repeat (first | exact (Kd.R_reads' HO_577001.out).2.2 | (with_reducible refine Kd.C_alloc ?_ _) | (with_reducible refine Kd.C_drewN ?_ _) | (with_reducible refine Kd.C_drew ?_)));(case side2 => exact (Kd.R_reads' HO_577001.out).2.1);(case side3 => repeat (first | exact (Kd.R_reads' HO_568001.out).2.2 | (with_reducible refine Kd.C_alloc ?_ _) | (with_reducible refine Kd.C_drewN ?_ _) | (with_reducible refine Kd.C_drew ?_)));(case side4 => exact (Kd.R_reads' HO_568001.out).2.1);rintro e w46 ⟨rfl,hb⟩;replace HO_568001 := zrb HO_568001 hb;replace HO_577001 := zrb HO_577001 hb;replace BK567 := zb BK567 hb;replace BK576 := zb BK576 hb;replace HB := zs_ HB hb;(try clear hb);(try clear hb2);(try clear hk);(try clear hi)))
         go_meet
         case rel => exact ⟨_,((t575 != t566)),(by first | rfl | (simp;done) | (simp [*];done)),H',⟨by have := HJ6.out;first | omega | exact Nat.le_refl _⟩,⟨zr HO_568001⟩,⟨zr HO_577001⟩,⟨by (with_reducible repeat (first | apply k1_ | apply k2_ | apply k3_));exact BK567.out⟩,⟨by (with_reducible repeat (first | apply k1_ | apply k2_ | apply k3_));exact BK576.out⟩,⟨zl_ HB⟩⟩
        ·replace c42 := Bool.eq_false_iff.mpr c42
         subst c42
         have H1 : (laws_FnExactReadCert.j1 kj6 l0 t566 true t562 t563 t571 t572) = some r := by rw [if_neg (show ¬ (false = true) by decide)] at H;exact H
         clear H
         have H := H1
         clear H1
         have H' := am_ H
         clear H
         have hnb47 := NB576_567.out
         have hnc47 := NB567_576.out
         obtain ⟨hcz48_0,hcz48_1,hfz48_0,hfz48_1⟩ := zc2 BK576
         obtain ⟨hcz49_0,hcz49_1,hfz49_0,hfz49_1⟩ := zc2 BK567
         go_wp2_with (first | (go_at_call 20;(with_reducible refine (laws_eqCert.calls kj6 t571 _ _ t572 t562 _ _ t563 false _ ?side1 ?side2 ?side3 ?side4 A41.out).mono ?_);(case side1 => repeat (first | exact (Kd.R_reads' HO_577001.out).2.2 | (with_reducible refine Kd.C_alloc ?_ _) | (with_reducible refine Kd.C_drewN ?_ _) | (with_reducible refine Kd.C_drew ?_)));(case side2 => exact (Kd.R_reads' HO_577001.out).2.1);(case side3 => repeat (first | exact (Kd.R_reads' HO_568001.out).2.2 | (with_reducible refine Kd.C_alloc ?_ _) | (with_reducible refine Kd.C_drewN ?_ _) | (with_reducible refine Kd.C_drew ?_)));(case side4 => exact (Kd.R_reads' HO_568001.out).2.1);rintro e w50 ⟨rfl,hb⟩;replace HO_568001 := zrb HO_568001 hb;replace HO_577001 := zrb HO_577001 hb;replace BK567 := zb BK567 hb;replace BK576 := zb BK576 hb;replace HB := zs_ HB hb;(try clear hb);(try clear hb2);(try clear hk);(try clear hi)))
         go_meet
         case rel => exact ⟨_,(true),(by first | rfl | (simp;done) | (simp [*];done)),H',⟨by have := HJ6.out;first | omega | exact Nat.le_refl _⟩,⟨zr HO_568001⟩,⟨zr HO_577001⟩,⟨by (with_reducible repeat (first | apply k1_ | apply k2_ | apply k3_));exact BK567.out⟩,⟨by (with_reducible repeat (first | apply k1_ | apply k2_ | apply k3_));exact BK576.out⟩,⟨zl_ HB⟩⟩
      case rest =>
       clear HC36
       try clear c1
       try clear c2
       try clear c2b0
       try clear c2b1
       try clear p2
       try clear c3
       try clear c4
       try clear c5
       try clear c11
       try clear c14
       try clear c18
       try clear c20
       try clear c22
       try clear c23
       try clear c24
       try clear c27
       try clear c31
       try clear c34
       try clear c40
       try clear c40b0
       try clear c42
       try clear c43
       try clear c47
       try clear hcz12_0
       try clear hcz12_1
       try clear hcz19_0
       try clear hcz19_1
       try clear hcz24_0
       try clear hcz24_1
       try clear hcz25_0
       try clear hcz25_1
       try clear hcz28_0
       try clear hcz28_1
       try clear hcz29_0
       try clear hcz29_1
       try clear hcz44_0
       try clear hcz44_1
       try clear hcz45_0
       try clear hcz45_1
       try clear hcz48_0
       try clear hcz48_1
       try clear hcz49_0
       try clear hcz49_1
       try clear hfz12_0
       try clear hfz12_1
       try clear hfz19_0
       try clear hfz19_1
       try clear hfz24_0
       try clear hfz24_1
       try clear hfz25_0
       try clear hfz25_1
       try clear hfz28_0
       try clear hfz28_1
       try clear hfz29_0
       try clear hfz29_1
       try clear hfz44_0
       try clear hfz44_1
       try clear hfz45_0
       try clear hfz45_1
       try clear hfz48_0
       try clear hfz48_1
       try clear hfz49_0
       try clear hfz49_1
       try clear p2
       obtain ⟨kq,x58_35,rfl,HA,HJ35,HO_568001,HO_577001,BK567,BK576,HB⟩ := hcut
       cases kq with
       | zero => exact absurd HA.out (by simp [laws_FnExactReadCert.j1])
       | succ kj35 =>
        have H := HA.out
        clear HA
        simp only [laws_FnExactReadCert.j1] at H
        by_cases c51 : x58_35 = true
        ·subst c51
         have H1 : (some false) = some r := by rw [if_pos rfl] at H;exact H
         clear H
         have H := H1
         clear H1
         obtain rfl := Option.some.inj H
         go_wp2
         go_ret
         exact ⟨zt_,zl_ HB⟩
        ·replace c51 := Bool.eq_false_iff.mpr c51
         subst c51
         have H1 : ((laws_markCert.f kj35 t571 t572 1).bind fun bt585 => ((laws_heldCert.f kj35 t571 bt585.2 1).bind fun t587 => (if t587 < 0 then (some false) else (if t587 = bt585.1 then ((laws_toByteS.f kj35 l0).bind fun t588 => ((impl_ReadCert.f kj35 t588).bind fun bt591 => ((laws_eqCert.f kj35 bt591.1 bt591.2.1 t562 t563).bind fun t597 => (if t597 = true then (laws_FnExactReadCert.j2 kj35 bt585.1 (bt591.2.2 != t566) t571 bt585.2) else (laws_FnExactReadCert.j2 kj35 bt585.1 true t571 bt585.2))))) else (some false))))) = some r := by rw [if_neg (show ¬ (false = true) by decide)] at H;exact H
         clear H
         have H := H1
         clear H1
         replace H := Option.bind_eq_some_iff.mp H
         obtain ⟨⟨t585,t586⟩,A520,H⟩ := H
         try dsimp only at H
         have A52 := am_ A520
         clear A520
         replace H := Option.bind_eq_some_iff.mp H
         obtain ⟨t587,A530,H⟩ := H
         try dsimp only at H
         have A53 := am_ A530
         clear A530
         by_cases c54 : t587 < 0
         ·rw [if_pos c54] at H
          have c54b0 : decide (t587 < 0) = true := decide_eq_true c54
          clear c54
          obtain rfl := Option.some.inj H
          have hnb55 := NB576_567.out
          have hnc55 := NB567_576.out
          obtain ⟨hcz56_0,hcz56_1,hfz56_0,hfz56_1⟩ := zc2 BK576
          go_wp2_with (first | ((with_reducible refine gate_callee (f := 21) rfl ?_);refine zgl (some 61) Try.func21 #[.agg #[.string t571,.slice Ao20 t572.length co20],.int .i64 1] ?_;(with_reducible refine (laws_markCert.calls kj35 t571 (fun k_ => some k_ = (.slice Ao20 t572.length co20 : Value).ownBlock) (.slice Ao20 t572.length co20) t572 1 t585 t586 w _ ?side1 ?side2 A52.out).mono ?_);(case side1 => exact zl_ HB);(case side2 => exact Kd.R_tight rfl HO_577001.out);rintro e w57 ⟨rfl,hy0,hb,hkp⟩;refine ⟨_,rfl,?_⟩;replace HO_568001 := am_ (Kd.R_mono (ok' := fun k_ => some k_ ≠ (.slice Ao20 t572.length co20 : Value).ownBlock) (Kd.R_keptB (HO_568001.out) hkp (fun k_ hk_ hs_ => (hk_) hs_)) (fun k_ hk_ => hk_.1));replace BK567 := am_ (blk_kept (zk BK567) hkp (fun hs_ => (fun e_ => (Kd.R_ne HO_577001.out BK567.out (by decide)) e_) hs_));replace BK576 := am_ (blk_kept (zk BK576) hkp (fun hs_ => (fun e_ => (Kd.R_ne HO_577001.out BK576.out (by decide)) e_) hs_));replace HO_577001 := am_ (Kd.R_reok rfl hy0 (fun k_ e_ => HO_577001.out.1 k_ e_));replace HB := am_ (hb);(try clear hb);(try clear hkp);(try clear hy0);obtain ⟨hcz58_0,hcz58_1,hfz58_0,hfz58_1⟩ := zc2 BK576) | ((with_reducible refine gate_callee (f := 25) rfl ?_);refine goesL_ (some 64) rfl rfl Try.func25 (by kernel_rfl) rfl #[.agg #[.string t571,.slice Ao20 t586.length co20],.int .i64 1] rfl (by (try simp only [m1_,m2_,m3_]);first | done | (rw [show t586.length = t572.length from (Kd.R_reads' HO_577001.out).1.symm] <;> rfl) | rfl | (simp only [d1_,d2_];rfl)) ?_;(with_reducible refine (laws_heldCert.calls kj35 t571 _ _ t586 1 t587 _ ?side1 ?side2 A53.out).mono ?_);(case side1 => repeat (first | exact (Kd.R_reads' HO_577001.out).2.2 | (with_reducible refine Kd.C_alloc ?_ _) | (with_reducible refine Kd.C_drewN ?_ _) | (with_reducible refine Kd.C_drew ?_)));(case side2 => rw [show t586.length = t572.length from (Kd.R_reads' HO_577001.out).1.symm];exact (Kd.R_reads' HO_577001.out).2.1);rintro e w59 ⟨rfl,hb⟩;refine ⟨_,rfl,?_⟩;replace HO_568001 := zrb HO_568001 hb;replace HO_577001 := zrb HO_577001 hb;replace BK567 := zb BK567 hb;replace BK576 := zb BK576 hb;replace HB := zs_ HB hb;(try clear hb);(try clear hb2);(try clear hk);(try clear hi)))
          go_ret
          exact ⟨zt_,zl_ HB⟩
         ·rw [if_neg c54] at H
          have c54b0 : decide (t587 < 0) = false := decide_eq_false c54
          clear c54
          by_cases c60 : t587 = t585
          ·rw [if_pos c60] at H
           have c60b0 : (t587 == t585) = true := beq_iff_eq.mpr c60
           have c60b1 : (t587 != t585) = false := bne_eq_false_iff_eq.mpr c60
           clear c60
           replace H := Option.bind_eq_some_iff.mp H
           obtain ⟨t588,A610,H⟩ := H
           try dsimp only at H
           have A61 := am_ A610
           clear A610
           replace H := Option.bind_eq_some_iff.mp H
           obtain ⟨⟨t591,t592,t595⟩,A620,H⟩ := H
           try dsimp only at H
           have A62 := am_ A620
           clear A620
           have HC63 := am_ H
           clear H
           have hnb64 := NB576_567.out
           have hnc64 := NB567_576.out
           obtain ⟨hcz65_0,hcz65_1,hfz65_0,hfz65_1⟩ := zc2 BK576
           go_upto_region 23 with (first | ((with_reducible refine gate_callee (f := 21) rfl ?_);refine zgl (some 61) Try.func21 #[.agg #[.string t571,.slice Ao20 t572.length co20],.int .i64 1] ?_;(with_reducible refine (laws_markCert.calls kj35 t571 (fun k_ => some k_ = (.slice Ao20 t572.length co20 : Value).ownBlock) (.slice Ao20 t572.length co20) t572 1 t585 t586 w _ ?side1 ?side2 A52.out).mono ?_);(case side1 => exact zl_ HB);(case side2 => exact Kd.R_tight rfl HO_577001.out);rintro e w66 ⟨rfl,hy0,hb,hkp⟩;refine ⟨_,rfl,?_⟩;replace HO_568001 := am_ (Kd.R_mono (ok' := fun k_ => some k_ ≠ (.slice Ao20 t572.length co20 : Value).ownBlock) (Kd.R_keptB (HO_568001.out) hkp (fun k_ hk_ hs_ => (hk_) hs_)) (fun k_ hk_ => hk_.1));replace BK567 := am_ (blk_kept (zk BK567) hkp (fun hs_ => (fun e_ => (Kd.R_ne HO_577001.out BK567.out (by decide)) e_) hs_));replace BK576 := am_ (blk_kept (zk BK576) hkp (fun hs_ => (fun e_ => (Kd.R_ne HO_577001.out BK576.out (by decide)) e_) hs_));replace HO_577001 := am_ (Kd.R_reok rfl hy0 (fun k_ e_ => HO_577001.out.1 k_ e_));replace HB := am_ (hb);(try clear hb);(try clear hkp);(try clear hy0);obtain ⟨hcz67_0,hcz67_1,hfz67_0,hfz67_1⟩ := zc2 BK576) | ((with_reducible refine gate_callee (f := 25) rfl ?_);refine goesL_ (some 64) rfl rfl Try.func25 (by kernel_rfl) rfl #[.agg #[.string t571,.slice Ao20 t586.length co20],.int .i64 1] rfl (by (try simp only [m1_,m2_,m3_]);first | done | (rw [show t586.length = t572.length from (Kd.R_reads' HO_577001.out).1.symm] <;> rfl) | rfl | (simp only [d1_,d2_];rfl)) ?_;(with_reducible refine (laws_heldCert.calls kj35 t571 _ _ t586 1 t587 _ ?side1 ?side2 A53.out).mono ?_);(case side1 => repeat (first | exact (Kd.R_reads' HO_577001.out).2.2 | (with_reducible refine Kd.C_alloc ?_ _) | (with_reducible refine Kd.C_drewN ?_ _) | (with_reducible refine Kd.C_drew ?_)));(case side2 => rw [show t586.length = t572.length from (Kd.R_reads' HO_577001.out).1.symm];exact (Kd.R_reads' HO_577001.out).2.1);rintro e w68 ⟨rfl,hb⟩;refine ⟨_,rfl,?_⟩;replace HO_568001 := zrb HO_568001 hb;replace HO_577001 := zrb HO_577001 hb;replace BK567 := zb BK567 hb;replace BK576 := zb BK576 hb;replace HB := zs_ HB hb;(try clear hb);(try clear hb2);(try clear hk);(try clear hi)) | ((with_reducible refine gate_callee (f := 23) rfl ?_);refine zgl (some 72) Try.func23 #[.slice A0 l0.length c0] ?_;(with_reducible refine (laws_toByteS.calls kj35 _ _ l0 t588 _ ?side1 ?side2 A61.out).mono ?_);(case side1 => exact zc_ HR0 HB);(case side2 => exact HC0.out);rintro e w69 ⟨v589,rfl,ho0,hb⟩;refine ⟨_,rfl,?_⟩;replace HO_568001 := zrb HO_568001 hb;replace HO_577001 := zrb HO_577001 hb;have HO590 := am_ (Kd.R_lower ho0 (below_size (zl_ HB)));replace BK567 := zb BK567 hb;replace BK576 := zb BK576 hb;replace HB := zs_ HB hb;(try clear hb);(try clear hb2);(try clear hk);(try clear hi);(try clear ho0);obtain ⟨Ao70,co70,eo70⟩ := Kd.R_slice HO590.out;subst eo70) | ((with_reducible refine gate_callee (f := 24) rfl ?_);refine zgl (some 73) Try.func24 #[.slice Ao70 t588.length co70] ?_;(with_reducible refine (impl_ReadCert.calls kj35 _ _ t588 t591 t592 t595 _ ?side1 ?side2 A62.out).mono ?_);(case side1 => repeat (first | exact (Kd.R_reads' HO590.out).2.2 | (with_reducible refine Kd.C_alloc ?_ _) | (with_reducible refine Kd.C_drewN ?_ _) | (with_reducible refine Kd.C_drew ?_)));(case side2 => exact (Kd.R_reads' HO590.out).2.1);rintro e w71 ⟨v593,rfl,ho0,hb⟩;refine ⟨_,rfl,?_⟩;have HO594 := am_ (Kd.R_lower (Kd.R_new' (Kd.R_new' ho0 (Kd.R_lt (zr HO_568001))) (Kd.R_lt (zr HO_577001))) (below_size (zl_ HB)));replace HO_568001 := am_ (Kd.R_elder' (zr HO_568001) (Kd.R_base ho0) hb);replace HO_577001 := am_ (Kd.R_elder' (zr HO_577001) (Kd.R_base ho0) hb);replace BK567 := zb BK567 hb;replace BK576 := zb BK576 hb;replace HB := zs_ HB hb;(try clear hb);(try clear hb2);(try clear hk);(try clear hi);(try clear ho0)) | ((with_reducible refine gate_dst (N := 11) rfl ?_);refine zbx (N := 11) (cs := #[.string ⟨#[]⟩,.slice none 0 0]) (t := 39) ?_;intro gb596 hg w72 hbox hb;replace HO_568001 := zrb HO_568001 hb;replace HO_577001 := zrb HO_577001 hb;replace HO594 := zrb HO594 hb;have BK596 := am_ (hbox);have GW596 := zw_ HB hg;have GE596 := zw_ HB hg;replace HB := zs_ HB hb;have NB567_596 := zl hg BK567;have NB596_567 := zg hg BK567;replace BK567 := zb BK567 hb;have NB576_596 := zl hg BK576;have NB596_576 := zg hg BK576;replace BK576 := zb BK576 hb;clear hb hbox hg;have hnb73 := NB596_567.out;have hnc73 := NB567_596.out;have hnb74 := NB596_576.out;have hnc74 := NB576_596.out;obtain ⟨hcz75_0,hcz75_1,hfz75_0,hfz75_1⟩ := zc2 BK596;obtain ⟨Ao76,co76,eo76⟩ := Kd.R_slice HO594.out;subst eo76))
           (try simp only [Act.put,p1_,p2_,p3_])
           go_cut [84] (fun v84 wc => ∃ (kq : Nat) (x84_62 : Bool),v84 = .bool x84_62 ∧ Aside0 (laws_FnExactReadCert.j2 kq t585 x84_62 t571 t586 = some r) ∧ Aside0 (kq ≤ kj35) ∧ Aside0 (Kd.R k63 63 wc w.heap.size (fun k_ => some k_ ≠ ((.slice Ao20 t572.length co20) : Value).ownBlock ∧ some k_ ≠ ((.slice Ao76 t592.length co76) : Value).ownBlock) (.slice Ao13 t563.length co13) t563) ∧ Aside0 (Kd.R k63 63 wc w.heap.size (fun k_ => some k_ ≠ ((.slice Ao13 t563.length co13) : Value).ownBlock ∧ some k_ ≠ ((.slice Ao76 t592.length co76) : Value).ownBlock) (.slice Ao20 t572.length co20) t586) ∧ Aside0 (Kd.R k63 63 wc w.heap.size (fun k_ => some k_ ≠ ((.slice Ao13 t563.length co13) : Value).ownBlock ∧ some k_ ≠ ((.slice Ao20 t572.length co20) : Value).ownBlock) (.slice Ao76 t592.length co76) t592) ∧ Aside0 (wc.heap[gb567]? = some (.cells #[.string t562,(.slice Ao13 t563.length co13)] 39 (0,0))) ∧ Aside0 (wc.heap[gb576]? = some (.cells #[.string t571,(.slice Ao20 t572.length co20)] 39 (0,0))) ∧ Aside0 (wc.heap[gb596]? = some (.cells #[.string t591,(.slice Ao76 t592.length co76)] 39 (0,0))) ∧ Aside0 (Below w.heap.size w wc))
           case first =>
            have H := HC63.out
            clear HC63
            replace H := Option.bind_eq_some_iff.mp H
            obtain ⟨t597,A770,H⟩ := H
            try dsimp only at H
            have A77 := am_ A770
            clear A770
            by_cases c78 : t597 = true
            ·subst c78
             have H1 : (laws_FnExactReadCert.j2 kj35 t585 (t595 != t566) t571 t586) = some r := by rw [if_pos rfl] at H;exact H
             clear H
             have H := H1
             clear H1
             have H' := am_ H
             clear H
             have hnb79 := NB596_567.out
             have hnc79 := NB567_596.out
             have hnb80 := NB596_576.out
             have hnc80 := NB576_596.out
             obtain ⟨hcz81_0,hcz81_1,hfz81_0,hfz81_1⟩ := zc2 BK596
             have hnb82 := NB567_576.out
             have hnc82 := NB576_567.out
             obtain ⟨hcz83_0,hcz83_1,hfz83_0,hfz83_1⟩ := zc2 BK567
             go_wp2_with (first | ((with_reducible refine gate_callee (f := 20) rfl ?_);refine zgl (some 78) Try.func20 #[.agg #[.string t591,.slice Ao76 t592.length co76],.agg #[.string t562,.slice Ao13 t563.length co13]] ?_;(with_reducible refine (laws_eqCert.calls kj35 t591 _ _ t592 t562 _ _ t563 true _ ?side1 ?side2 ?side3 ?side4 A77.out).mono ?_);(case side1 => refine (Kd.R_reads' (e := 63) (base := w.heap.size) (ok := fun k_ => ((True ∧ some k_ ≠ (.slice Ao13 t563.length co13 : Value).ownBlock) ∧ some k_ ≠ (.slice Ao20 t572.length co20 : Value).ownBlock)) (n := t592.length) (c := co76) ?_).2.2;exact (by (with_reducible repeat (first | apply r1_ | apply r2_ | apply r3_));exact (Kd.R_mono (zrf (Kd.R_types HO594.out BK596.out (by decide))) (fun _ h_ => h_.1))));(case side2 => exact (Kd.R_reads' HO594.out).2.1);(case side3 => refine (Kd.R_reads' (e := 63) (base := w.heap.size) (ok := fun k_ => (some k_ ≠ (.slice Ao20 t572.length co20 : Value).ownBlock ∧ some k_ ≠ (.slice Ao76 t592.length co76 : Value).ownBlock)) (n := t563.length) (c := co13) ?_).2.2;exact (by (with_reducible repeat (first | apply r1_ | apply r2_ | apply r3_));exact (Kd.R_mono (zrf (Kd.R_types HO_568001.out BK596.out (by decide))) (fun _ h_ => h_.1))));(case side4 => exact (Kd.R_reads' HO_568001.out).2.1);rintro e w84 ⟨rfl,hb⟩;refine ⟨_,rfl,?_⟩;replace HO_568001 := am_ (Kd.R_below (by (with_reducible repeat (first | apply r1_ | apply r2_ | apply r3_));exact (Kd.R_mono (zrf (Kd.R_types HO_568001.out BK596.out (by decide))) (fun _ h_ => h_.1))) hb);replace HO_577001 := am_ (Kd.R_below (by (with_reducible repeat (first | apply r1_ | apply r2_ | apply r3_));exact (Kd.R_mono (zrf (Kd.R_types HO_577001.out BK596.out (by decide))) (fun _ h_ => h_.1))) hb);replace HO594 := am_ (Kd.R_below (by (with_reducible repeat (first | apply r1_ | apply r2_ | apply r3_));exact (Kd.R_mono (zrf (Kd.R_types HO594.out BK596.out (by decide))) (fun _ h_ => h_.1))) hb);replace BK567 := am_ (blk_below (g := gb567) (o := .cells #[.string t562,.slice Ao13 t563.length co13] 39 (0,0)) (zq BK567) hb);replace BK576 := am_ (blk_below (g := gb576) (o := .cells #[.string t571,.slice Ao20 t572.length co20] 39 (0,0)) (zq BK576) hb);replace BK596 := am_ (blk_below (g := gb596) (o := .cells #[.string t591,.slice Ao76 t592.length co76] 39 (0,0)) (zq BK596) hb);replace HB := zs_ HB hb;(try clear hb);(try clear hb2);(try clear hk);(try clear hi)))
             go_meet
             case rel => exact ⟨_,((t595 != t566)),(by first | rfl | (simp;done) | (simp [*];done)),H',⟨by have := HJ6.out;have := HJ35.out;first | omega | exact Nat.le_refl _⟩,⟨zr HO_568001⟩,⟨zr HO_577001⟩,⟨by (with_reducible repeat (first | apply r1_ | apply r2_ | apply r3_));exact Kd.R_mono HO594.out (fun _ hk => ⟨hk.1.2,hk.2⟩)⟩,⟨by (with_reducible repeat (first | apply k1_ | apply k2_ | apply k3_));exact BK567.out⟩,⟨by (with_reducible repeat (first | apply k1_ | apply k2_ | apply k3_));exact BK576.out⟩,⟨by (with_reducible repeat (first | apply k1_ | apply k2_ | apply k3_));exact BK596.out⟩,⟨zl_ HB⟩⟩
            ·replace c78 := Bool.eq_false_iff.mpr c78
             subst c78
             have H1 : (laws_FnExactReadCert.j2 kj35 t585 true t571 t586) = some r := by rw [if_neg (show ¬ (false = true) by decide)] at H;exact H
             clear H
             have H := H1
             clear H1
             have H' := am_ H
             clear H
             have hnb85 := NB596_567.out
             have hnc85 := NB567_596.out
             have hnb86 := NB596_576.out
             have hnc86 := NB576_596.out
             obtain ⟨hcz87_0,hcz87_1,hfz87_0,hfz87_1⟩ := zc2 BK596
             have hnb88 := NB567_576.out
             have hnc88 := NB576_567.out
             obtain ⟨hcz89_0,hcz89_1,hfz89_0,hfz89_1⟩ := zc2 BK567
             go_wp2_with (first | ((with_reducible refine gate_callee (f := 20) rfl ?_);refine zgl (some 78) Try.func20 #[.agg #[.string t591,.slice Ao76 t592.length co76],.agg #[.string t562,.slice Ao13 t563.length co13]] ?_;(with_reducible refine (laws_eqCert.calls kj35 t591 _ _ t592 t562 _ _ t563 false _ ?side1 ?side2 ?side3 ?side4 A77.out).mono ?_);(case side1 => refine (Kd.R_reads' (e := 63) (base := w.heap.size) (ok := fun k_ => ((True ∧ some k_ ≠ (.slice Ao13 t563.length co13 : Value).ownBlock) ∧ some k_ ≠ (.slice Ao20 t572.length co20 : Value).ownBlock)) (n := t592.length) (c := co76) ?_).2.2;exact (by (with_reducible repeat (first | apply r1_ | apply r2_ | apply r3_));exact (Kd.R_mono (zrf (Kd.R_types HO594.out BK596.out (by decide))) (fun _ h_ => h_.1))));(case side2 => exact (Kd.R_reads' HO594.out).2.1);(case side3 => refine (Kd.R_reads' (e := 63) (base := w.heap.size) (ok := fun k_ => (some k_ ≠ (.slice Ao20 t572.length co20 : Value).ownBlock ∧ some k_ ≠ (.slice Ao76 t592.length co76 : Value).ownBlock)) (n := t563.length) (c := co13) ?_).2.2;exact (by (with_reducible repeat (first | apply r1_ | apply r2_ | apply r3_));exact (Kd.R_mono (zrf (Kd.R_types HO_568001.out BK596.out (by decide))) (fun _ h_ => h_.1))));(case side4 => exact (Kd.R_reads' HO_568001.out).2.1);rintro e w90 ⟨rfl,hb⟩;refine ⟨_,rfl,?_⟩;replace HO_568001 := am_ (Kd.R_below (by (with_reducible repeat (first | apply r1_ | apply r2_ | apply r3_));exact (Kd.R_mono (zrf (Kd.R_types HO_568001.out BK596.out (by decide))) (fun _ h_ => h_.1))) hb);replace HO_577001 := am_ (Kd.R_below (by (with_reducible repeat (first | apply r1_ | apply r2_ | apply r3_));exact (Kd.R_mono (zrf (Kd.R_types HO_577001.out BK596.out (by decide))) (fun _ h_ => h_.1))) hb);replace HO594 := am_ (Kd.R_below (by (with_reducible repeat (first | apply r1_ | apply r2_ | apply r3_));exact (Kd.R_mono (zrf (Kd.R_types HO594.out BK596.out (by decide))) (fun _ h_ => h_.1))) hb);replace BK567 := am_ (blk_below (g := gb567) (o := .cells #[.string t562,.slice Ao13 t563.length co13] 39 (0,0)) (zq BK567) hb);replace BK576 := am_ (blk_below (g := gb576) (o := .cells #[.string t571,.slice Ao20 t572.length co20] 39 (0,0)) (zq BK576) hb);replace BK596 := am_ (blk_below (g := gb596) (o := .cells #[.string t591,.slice Ao76 t592.length co76] 39 (0,0)) (zq BK596) hb);replace HB := zs_ HB hb;(try clear hb);(try clear hb2);(try clear hk);(try clear hi)))
             go_meet
             case rel => exact ⟨_,(true),(by first | rfl | (simp;done) | (simp [*];done)),H',⟨by have := HJ6.out;have := HJ35.out;first | omega | exact Nat.le_refl _⟩,⟨zr HO_568001⟩,⟨zr HO_577001⟩,⟨by (with_reducible repeat (first | apply r1_ | apply r2_ | apply r3_));exact Kd.R_mono HO594.out (fun _ hk => ⟨hk.1.2,hk.2⟩)⟩,⟨by (with_reducible repeat (first | apply k1_ | apply k2_ | apply k3_));exact BK567.out⟩,⟨by (with_reducible repeat (first | apply k1_ | apply k2_ | apply k3_));exact BK576.out⟩,⟨by (with_reducible repeat (first | apply k1_ | apply k2_ | apply k3_));exact BK596.out⟩,⟨zl_ HB⟩⟩
           case rest =>
            clear HC63
            try clear c1
            try clear c2
            try clear c2b0
            try clear c2b1
            try clear p2
            try clear c3
            try clear c4
            try clear c5
            try clear c6
            try clear c7
            try clear c8
            try clear c11
            try clear c14
            try clear c18
            try clear c20
            try clear c21
            try clear c22
            try clear c23
            try clear c24
            try clear c25
            try clear c27
            try clear c31
            try clear c34
            try clear c40
            try clear c40b0
            try clear c42
            try clear c43
            try clear c47
            try clear c51
            try clear c54
            try clear c54b0
            try clear c55
            try clear c60
            try clear c60b0
            try clear c60b1
            try clear c64
            try clear c73
            try clear c74
            try clear c78
            try clear c79
            try clear c80
            try clear c82
            try clear c85
            try clear c86
            try clear c88
            try clear hcz12_0
            try clear hcz12_1
            try clear hcz19_0
            try clear hcz19_1
            try clear hcz24_0
            try clear hcz24_1
            try clear hcz25_0
            try clear hcz25_1
            try clear hcz28_0
            try clear hcz28_1
            try clear hcz29_0
            try clear hcz29_1
            try clear hcz44_0
            try clear hcz44_1
            try clear hcz45_0
            try clear hcz45_1
            try clear hcz48_0
            try clear hcz48_1
            try clear hcz49_0
            try clear hcz49_1
            try clear hcz56_0
            try clear hcz56_1
            try clear hcz58_0
            try clear hcz58_1
            try clear hcz65_0
            try clear hcz65_1
            try clear hcz67_0
            try clear hcz67_1
            try clear hcz75_0
            try clear hcz75_1
            try clear hcz81_0
            try clear hcz81_1
            try clear hcz83_0
            try clear hcz83_1
            try clear hcz87_0
            try clear hcz87_1
            try clear hcz89_0
            try clear hcz89_1
            try clear hfz12_0
            try clear hfz12_1
            try clear hfz19_0
            try clear hfz19_1
            try clear hfz24_0
            try clear hfz24_1
            try clear hfz25_0
            try clear hfz25_1
            try clear hfz28_0
            try clear hfz28_1
            try clear hfz29_0
            try clear hfz29_1
            try clear hfz44_0
            try clear hfz44_1
            try clear hfz45_0
            try clear hfz45_1
            try clear hfz48_0
            try clear hfz48_1
            try clear hfz49_0
            try clear hfz49_1
            try clear hfz56_0
            try clear hfz56_1
            try clear hfz58_0
            try clear hfz58_1
            try clear hfz65_0
            try clear hfz65_1
            try clear hfz67_0
            try clear hfz67_1
            try clear hfz75_0
            try clear hfz75_1
            try clear hfz81_0
            try clear hfz81_1
            try clear hfz83_0
            try clear hfz83_1
            try clear hfz87_0
            try clear hfz87_1
            try clear hfz89_0
            try clear hfz89_1
            try clear p2
            obtain ⟨kq,x84_62,rfl,HA,HJ62,HO_568001,HO_577001,HO_597001,BK567,BK576,BK596,HB⟩ := hcut
            have hl577001_62 := (Kd.R_reads' HO_577001.out).1
            rw [hl577001_62] at HO_577001
            (try simp only [hl577001_62])
            (try simp only [hl577001_62] at BK567)
            (try simp only [hl577001_62] at BK576)
            (try simp only [hl577001_62] at BK596)
            (try simp only [hl577001_62] at HO_568001)
            (try simp only [hl577001_62] at HO_597001)
            cases kq with
            | zero => exact absurd HA.out (by simp [laws_FnExactReadCert.j2])
            | succ kj62 =>
             have H := HA.out
             clear HA
             simp only [laws_FnExactReadCert.j2] at H
             by_cases c91 : x84_62 = true
             ·subst c91
              have H1 : (some false) = some r := by rw [if_pos rfl] at H;exact H
              clear H
              have H := H1
              clear H1
              obtain rfl := Option.some.inj H
              go_wp2
              go_ret
              exact ⟨zt_,zl_ HB⟩
             ·replace c91 := Bool.eq_false_iff.mpr c91
              subst c91
              have H1 : ((laws_heldCert.f kj62 t571 t586 1).bind fun t598 => (if t598 < 0 then (some false) else (if t598 = t585 then (some true) else (some false)))) = some r := by rw [if_neg (show ¬ (false = true) by decide)] at H;exact H
              clear H
              have H := H1
              clear H1
              replace H := Option.bind_eq_some_iff.mp H
              obtain ⟨t598,A920,H⟩ := H
              try dsimp only at H
              have A92 := am_ A920
              clear A920
              by_cases c93 : t598 < 0
              ·rw [if_pos c93] at H
               have c93b0 : decide (t598 < 0) = true := decide_eq_true c93
               clear c93
               obtain rfl := Option.some.inj H
               have hnb94 := NB576_567.out
               have hnc94 := NB567_576.out
               have hnb95 := NB576_596.out
               have hnc95 := NB596_576.out
               obtain ⟨hcz96_0,hcz96_1,hfz96_0,hfz96_1⟩ := zc2 BK576
               go_wp2_with (first | ((with_reducible refine gate_callee (f := 25) rfl ?_);refine zgl (some 87) Try.func25 #[.agg #[.string t571,.slice Ao20 t586.length co20],.int .i64 1] ?_;(with_reducible refine (laws_heldCert.calls kj62 t571 _ _ t586 1 t598 _ ?side1 ?side2 A92.out).mono ?_);(case side1 => repeat (first | exact (Kd.R_reads' HO_577001.out).2.2 | (with_reducible refine Kd.C_alloc ?_ _) | (with_reducible refine Kd.C_drewN ?_ _) | (with_reducible refine Kd.C_drew ?_)));(case side2 => exact (Kd.R_reads' HO_577001.out).2.1);rintro e w97 ⟨rfl,hb⟩;refine ⟨_,rfl,?_⟩;replace HO_577001 := zrb HO_577001 hb;replace BK576 := zb BK576 hb;replace HB := zs_ HB hb;(try clear hb);(try clear hb2);(try clear hk);(try clear hi)))
               go_ret
               exact ⟨zt_,zl_ HB⟩
              ·rw [if_neg c93] at H
               have c93b0 : decide (t598 < 0) = false := decide_eq_false c93
               clear c93
               by_cases c98 : t598 = t585
               ·rw [if_pos c98] at H
                have c98b0 : (t598 == t585) = true := beq_iff_eq.mpr c98
                have c98b1 : (t598 != t585) = false := bne_eq_false_iff_eq.mpr c98
                clear c98
                obtain rfl := Option.some.inj H
                have hnb99 := NB576_567.out
                have hnc99 := NB567_576.out
                have hnb100 := NB576_596.out
                have hnc100 := NB596_576.out
                obtain ⟨hcz101_0,hcz101_1,hfz101_0,hfz101_1⟩ := zc2 BK576
                go_wp2_with (first | ((with_reducible refine gate_callee (f := 25) rfl ?_);refine zgl (some 87) Try.func25 #[.agg #[.string t571,.slice Ao20 t586.length co20],.int .i64 1] ?_;(with_reducible refine (laws_heldCert.calls kj62 t571 _ _ t586 1 t598 _ ?side1 ?side2 A92.out).mono ?_);(case side1 => repeat (first | exact (Kd.R_reads' HO_577001.out).2.2 | (with_reducible refine Kd.C_alloc ?_ _) | (with_reducible refine Kd.C_drewN ?_ _) | (with_reducible refine Kd.C_drew ?_)));(case side2 => exact (Kd.R_reads' HO_577001.out).2.1);rintro e w102 ⟨rfl,hb⟩;refine ⟨_,rfl,?_⟩;replace HO_577001 := zrb HO_577001 hb;replace BK576 := zb BK576 hb;replace HB := zs_ HB hb;(try clear hb);(try clear hb2);(try clear hk);(try clear hi)))
                go_ret
                exact ⟨zt_,zl_ HB⟩
               ·rw [if_neg c98] at H
                have c98b0 : (t598 == t585) = false := beq_eq_false_iff_ne.mpr c98
                have c98b1 : (t598 != t585) = true := bne_iff_ne.mpr c98
                obtain rfl := Option.some.inj H
                have hnb103 := NB576_567.out
                have hnc103 := NB567_576.out
                have hnb104 := NB576_596.out
                have hnc104 := NB596_576.out
                obtain ⟨hcz105_0,hcz105_1,hfz105_0,hfz105_1⟩ := zc2 BK576
                go_wp2_with (first | ((with_reducible refine gate_callee (f := 25) rfl ?_);refine zgl (some 87) Try.func25 #[.agg #[.string t571,.slice Ao20 t586.length co20],.int .i64 1] ?_;(with_reducible refine (laws_heldCert.calls kj62 t571 _ _ t586 1 t598 _ ?side1 ?side2 A92.out).mono ?_);(case side1 => repeat (first | exact (Kd.R_reads' HO_577001.out).2.2 | (with_reducible refine Kd.C_alloc ?_ _) | (with_reducible refine Kd.C_drewN ?_ _) | (with_reducible refine Kd.C_drew ?_)));(case side2 => exact (Kd.R_reads' HO_577001.out).2.1);rintro e w106 ⟨rfl,hb⟩;refine ⟨_,rfl,?_⟩;replace HB := zs_ HB hb;(try clear hb);(try clear hb2);(try clear hk);(try clear hi)))
                go_ret
                exact ⟨zt_,zl_ HB⟩
          ·rw [if_neg c60] at H
           have c60b0 : (t587 == t585) = false := beq_eq_false_iff_ne.mpr c60
           have c60b1 : (t587 != t585) = true := bne_iff_ne.mpr c60
           obtain rfl := Option.some.inj H
           have hnb107 := NB576_567.out
           have hnc107 := NB567_576.out
           obtain ⟨hcz108_0,hcz108_1,hfz108_0,hfz108_1⟩ := zc2 BK576
           go_wp2_with (first | ((with_reducible refine gate_callee (f := 21) rfl ?_);refine zgl (some 61) Try.func21 #[.agg #[.string t571,.slice Ao20 t572.length co20],.int .i64 1] ?_;(with_reducible refine (laws_markCert.calls kj35 t571 (fun k_ => some k_ = (.slice Ao20 t572.length co20 : Value).ownBlock) (.slice Ao20 t572.length co20) t572 1 t585 t586 w _ ?side1 ?side2 A52.out).mono ?_);(case side1 => exact zl_ HB);(case side2 => exact Kd.R_tight rfl HO_577001.out);rintro e w109 ⟨rfl,hy0,hb,hkp⟩;refine ⟨_,rfl,?_⟩;replace BK576 := am_ (blk_kept (zk BK576) hkp (fun hs_ => (fun e_ => (Kd.R_ne HO_577001.out BK576.out (by decide)) e_) hs_));replace HO_577001 := am_ (Kd.R_reok rfl hy0 (fun k_ e_ => HO_577001.out.1 k_ e_));replace HB := am_ (hb);(try clear hb);(try clear hkp);(try clear hy0);obtain ⟨hcz110_0,hcz110_1,hfz110_0,hfz110_1⟩ := zc2 BK576) | ((with_reducible refine gate_callee (f := 25) rfl ?_);refine goesL_ (some 64) rfl rfl Try.func25 (by kernel_rfl) rfl #[.agg #[.string t571,.slice Ao20 t586.length co20],.int .i64 1] rfl (by (try simp only [m1_,m2_,m3_]);first | done | (rw [show t586.length = t572.length from (Kd.R_reads' HO_577001.out).1.symm] <;> rfl) | rfl | (simp only [d1_,d2_];rfl)) ?_;(with_reducible refine (laws_heldCert.calls kj35 t571 _ _ t586 1 t587 _ ?side1 ?side2 A53.out).mono ?_);(case side1 => repeat (first | exact (Kd.R_reads' HO_577001.out).2.2 | (with_reducible refine Kd.C_alloc ?_ _) | (with_reducible refine Kd.C_drewN ?_ _) | (with_reducible refine Kd.C_drew ?_)));(case side2 => rw [show t586.length = t572.length from (Kd.R_reads' HO_577001.out).1.symm];exact (Kd.R_reads' HO_577001.out).2.1);rintro e w111 ⟨rfl,hb⟩;refine ⟨_,rfl,?_⟩;replace HB := zs_ HB hb;(try clear hb);(try clear hb2);(try clear hk);(try clear hi)))
           go_ret
           exact ⟨zt_,zl_ HB⟩
     ·replace c34 := Bool.eq_false_iff.mpr c34
      subst c34
      have H1 : (some false) = some r := by rw [if_neg (show ¬ (false = true) by decide)] at H;exact H
      clear H
      have H := H1
      clear H1
      obtain rfl := Option.some.inj H
      go_wp2_with (first | ((with_reducible refine gate_callee (f := 23) rfl ?_);refine zgl (some 40) Try.func23 #[.slice A0 l0.length c0] ?_;(with_reducible refine (laws_toByteS.calls kj6 _ _ l0 t578 _ ?side1 ?side2 A32.out).mono ?_);(case side1 => exact zc_ HR0 HB);(case side2 => exact HC0.out);rintro e w112 ⟨v579,rfl,ho0,hb⟩;refine ⟨_,rfl,?_⟩;have HO580 := am_ (Kd.R_lower (Kd.R_new' ho0 (Kd.R_lt (zr HO_5))) (below_size (zl_ HB)));replace HO_5 := am_ (Kd.R_elder' (zr HO_5) (Kd.R_base ho0) hb);replace HB := zs_ HB hb;(try clear hb);(try clear hb2);(try clear hk);(try clear hi);(try clear ho0);obtain ⟨Ao113,co113,eo113⟩ := Kd.R_slice HO580.out;subst eo113) | ((with_reducible refine gate_callee (f := 11) rfl ?_);refine zgl (some 41) Try.func11 #[.slice Ao15 t568.length co15,.slice Ao113 t578.length co113] ?_;(with_reducible refine (laws_eqByteS.calls kj6 _ _ t568 _ _ t578 false _ ?side1 ?side2 ?side3 ?side4 A33.out).mono ?_);(case side1 => repeat (first | exact (Kd.R_reads' HO_5.out).2.2 | (with_reducible refine Kd.C_alloc ?_ _) | (with_reducible refine Kd.C_drewN ?_ _) | (with_reducible refine Kd.C_drew ?_)));(case side2 => exact (Kd.R_reads' HO_5.out).2.1);(case side3 => repeat (first | exact (Kd.R_reads' HO580.out).2.2 | (with_reducible refine Kd.C_alloc ?_ _) | (with_reducible refine Kd.C_drewN ?_ _) | (with_reducible refine Kd.C_drew ?_)));(case side4 => exact (Kd.R_reads' HO580.out).2.1);rintro e w' ⟨rfl,⟨nd,rfl⟩⟩;refine ⟨_,rfl,?_⟩))
      go_ret
      exact ⟨zt_,zl_ HB⟩
end Go.Proofs.Ytadablpppkjdbaa.A
end
