/- A part of the proof that FnSigned returns true at every input: plain functions, contracts and lemmas. No conditions. -/
import Derived.Test.YtadablpppkjdbaaDoorQSignedc
set_option linter.unusedVariables false
set_option linter.unusedSimpArgs false
set_option linter.unusedSectionVars false
section
namespace Go.Proofs.YtadablpppkjdbaaDoor.A
open Go.RowKit Go.Proofs.YtadablpppkjdbaaDoorW.PrintWords Go.Proofs.YtadablpppkjdbaaDoorW.PrintLast Go.Proofs.YtadablpppkjdbaaDoorW.PrintMore
theorem Au.of_R {W : World} {base g n cap e : Nat} {ok : Nat → Prop} {xs : List Int} (h : Kd.R (Kd.int .u32) e W base ok (.slice (some ⟨g, 0, none⟩) n cap) xs) : Au W g xs := by
  have hn := (Kd.R_reads' h).1
  refine ⟨fun j hj => ?_, fun j hj => ?_⟩
  · have := (Kd.R_celln 0 h (j : Int) (by omega) (by omega)).1
    simpa [rdOf] using this
  · have := (Kd.R_celln 0 h (j : Int) (by omega) (by omega)).2
    simpa using this
theorem C_cells {k : IntKind} {W : World} {A : Option Addr} {n : Nat} {xs : List Int} (h : Kd.C (Kd.int k) W A n xs) (hn : 0 < n) : ∃ ad, A = some ad ∧ ∀ j, j < n → W.cell? (ad.add j) = some (.int k (xs.getD j 0)) := by
  obtain ⟨ad, e, c⟩ := Kd.at_int h 0 (by decide) (by omega)
  refine ⟨ad, e, fun j hj => ?_⟩
  obtain ⟨ad2, e2, c2⟩ := Kd.at_int h (j : Int) (by omega) (by omega)
  obtain rfl : ad = ad2 := Option.some.inj (e.symm.trans e2)
  simpa [rd] using c2
structure Sk (w W : World) (n gw : Nat) (lw : List Int) : Prop where
  hw : Au W gw lw
  mine : n ≤ gw
  lt : gw < W.heap.size
  below : Below n w W
theorem Sk.drew {w W : World} {n gw : Nat} {lw : List Int} (h : Sk w W n gw lw) : Sk w W.drew n gw lw := ⟨h.hw.drew, h.mine, h.lt, below_drew_h h.below⟩
theorem Sk.word {w W : World} {n gw : Nat} {lw : List Int} (h : Sk w W n gw lw) (j : Nat) (hj : j < lw.length) (x : Int) : Sk w (W.setCell ⟨gw, j, none⟩ (.int .u32 x)) n gw (lw.set j x) :=
  ⟨h.hw.set j hj x, h.mine, by simpa [World.setCell] using h.lt, below_set_h h.below h.mine⟩
structure Sv (w W : World) (n gw gv : Nat) (lw la : List Int) : Prop where
  hw : Au W gw lw
  ha : Au W gv la
  mw : n ≤ gw
  mv : n ≤ gv
  tw : gw < W.heap.size
  tv : gv < W.heap.size
  below : Below n w W
theorem Sv.drew {w W : World} {n gw gv : Nat} {lw la : List Int} (h : Sv w W n gw gv lw la) : Sv w W.drew n gw gv lw la := ⟨h.hw.drew, h.ha.drew, h.mw, h.mv, h.tw, h.tv, below_drew_h h.below⟩
theorem Sv.lit {w W : World} {n gw gv : Nat} {lw la : List Int} (h : Sv w W n gw gv lw la) (l : List Int) (t : Nat) : Sv w (W.alloc (.cells (l.map (Value.int .u32)).toArray t)) n gw W.heap.size lw l := by
  have h1 := h.tw
  have h2 := h.mw
  have hs := alloc_sz W (.cells (l.map (Value.int .u32)).toArray t)
  have e : ∀ k, k < W.heap.size → (W.alloc (.cells (l.map (Value.int .u32)).toArray t)).heap[k]? = W.heap[k]? := fun k hk => by rw [alloc_at, if_neg (by omega)]
  refine ⟨h.hw.at (e _ h.tw), Au.of_row (e := t) _ ?_, h.mw, by omega, by omega, by omega, ⟨h.below.os, h.below.tape, h.below.output, by have := h.below.size; omega, fun k hk => (e k (by omega)).trans (h.below.block k hk)⟩⟩
  rw [alloc_at, if_pos rfl]
/-- The copy of the eight words. -/
theorem append8 {P : Program} {ops : Array Oper} {rest : List Oper} {o : Oper} {a : Act} {Q : Exit → Act → World → Prop} {w W : World} {n gw g g0 c0 : Nat} {lw l0 : List Int} (t e : TypeId) (hgd : o.guard = none) (s x : Operand)
    (ho : o.op = .call { callee := .builtin .append, args := #[s, x], argTypes := #[t, t] }) (ht : P.underlying t = some (.slice e)) (hinfo : (P.info? e).map (fun i => (i.zero, i.size, i.bytes)) = some (some (.int .u32 0), 1, 4))
    (hs : a.eval s = .slice (some ⟨g, 0, none⟩) 0 0) (hx : a.eval x = .slice (some ⟨g0, 0, none⟩) 8 c0) (hl0 : l0.length = 8) (hc : Au W g0 l0) (F : Sk w W n gw lw)
    (h : ∀ gv cv w1, Sv w w1 n gw gv lw l0 → wpList P ops Q rest (a.put o.dst (.slice (some ⟨gv, 0, none⟩) 8 cv)) w1) : wpList P ops Q (o :: rest) a W := by
  obtain ⟨i, hi, hzz⟩ := Option.map_eq_some_iff.1 hinfo
  simp only [Prod.mk.injEq] at hzz
  obtain ⟨hz, hs1, hb1⟩ := hzz
  have hnl : (l0.map (Value.int .u32)).length = 8 := by simp [hl0]
  have h48' : ¬ (281474976710656 < Builtin.nextslicecap 8 0 * i.bytes) := by rw [hb1]; decide
  have hf0 := run_firstCells_some (P := P) W.drew 1 0 ⟨g, 0, none⟩ 0 0 [] rfl (fun j v hj => by simp at hj)
  have hf8 := run_firstCells_some (P := P) W.drew 1 8 ⟨g0, 0, none⟩ 8 c0 (l0.map (Value.int .u32)) (by simp [hl0]) (fun j v hj => by
    rw [add_plain]
    have hjl : j < l0.length := by
      have := (List.getElem?_eq_some_iff.1 hj).1
      omega
    have := hc.cell j hjl
    simp only [List.getElem?_map, List.getElem?_eq_getElem hjl, Option.map_some, Option.some.injEq] at hj
    subst hj
    simpa [List.getD, hjl] using this)
  have hzc : (Value.int .u32 0).cells = #[.int .u32 0] := rfl
  have hr : (Builtin.append_ #[t, t] o.type #[.slice (some ⟨g, 0, none⟩) 0 0, .slice (some ⟨g0, 0, none⟩) 8 c0]).run P W = .ok (.slice (some ⟨W.heap.size, 0, none⟩) 8 (grownCap W 8 0 e))
      (W.drew.alloc (.cells ((l0.map (Value.int .u32)).toArray ++ Builtin.zeroCells #[.int .u32 0] (grownCap W 8 0 e - 8)) e)) := by
    rw [← hs1] at hf0 hf8
    simp [Builtin.append_, run_underlying ht, sizeOf, typeInfo, zeroValue, hi, hz, Builtin.lenOf, h48', Question.forced, hf0, hf8, newRow, grownCap, hzc]
  refine wpList_plain hgd fun K hK => ?_
  unfold Oper.wp execOp
  simp only [ho, resolve, invoke, builtin, Sem.run_bind, Sem.run_pure, Result.andThen_ok, List.map_toArray, List.map_cons, List.map_nil, hs, hx, hr]
  refine hK _ _ (h _ _ _ ?_)
  have h1 := F.lt
  have h2 := F.mine
  have hsz : (W.drew.alloc (.cells ((l0.map (Value.int .u32)).toArray ++ Builtin.zeroCells #[.int .u32 0] (grownCap W 8 0 e - 8)) e)).heap.size = W.heap.size + 1 := alloc_sz _ _
  have e2 : ∀ k, k < W.heap.size → (W.drew.alloc (.cells ((l0.map (Value.int .u32)).toArray ++ Builtin.zeroCells #[.int .u32 0] (grownCap W 8 0 e - 8)) e)).heap[k]? = W.heap[k]? := fun k hk => by
    rw [alloc_at, if_neg (by show ¬ k = W.heap.size; omega)]
    rfl
  have e3 : (W.drew.alloc (.cells ((l0.map (Value.int .u32)).toArray ++ Builtin.zeroCells #[.int .u32 0] (grownCap W 8 0 e - 8)) e)).heap[W.heap.size]? = some (.cells ((l0.map (Value.int .u32)).toArray ++ Builtin.zeroCells #[.int .u32 0] (grownCap W 8 0 e - 8)) e) := by
    rw [alloc_at, if_pos (by rfl)]
  refine ⟨F.hw.at (e2 _ F.lt), ⟨fun j hj => ?_, fun j hj => ?_⟩, F.mine, by omega, by omega, by omega, ⟨F.below.os, F.below.tape, F.below.output, by rw [hsz]; have := F.below.size; omega, fun k hk => (e2 k (by omega)).trans (F.below.block k hk)⟩⟩
  · unfold World.cell?
    rw [e3]
    have hj2 : j < (l0.map (Value.int .u32)).toArray.size := by simpa using hj
    simp only [Option.isSome_none, Bool.false_eq_true, if_false]
    rw [Array.getElem?_append_left hj2]
    simp [List.getD, hj]
  · unfold World.frozen?
    rw [e3]
    simp
/-- The last loop: the state that came in is written. -/
structure St (w0 w W : World) (S : Nat → Prop) (g0 c0 gv : Nat) (lh la : List Int) : Prop where
  hr : Kd.R (Kd.int .u32) 153 W w0.heap.size S (.slice (some ⟨g0, 0, none⟩) 8 c0) lh
  ha : Au W gv la
  ne : gv ≠ g0
  below : Below w0.heap.size w0 W
  kept : Kept w W S
theorem St.drew {w0 w W : World} {S : Nat → Prop} {g0 c0 gv : Nat} {lh la : List Int} (h : St w0 w W S g0 c0 gv lh la) : St w0 w W.drew S g0 c0 gv lh la :=
  ⟨Kd.R_drew h.hr, h.ha.drew, h.ne, below_drew_h h.below, h.kept.drew⟩
theorem St.set {w0 w W : World} {S : Nat → Prop} {g0 c0 gv : Nat} {lh la : List Int} (h : St w0 w W S g0 c0 gv lh la) (j : Nat) (x : Int) : St w0 w (W.setCell ⟨g0, j, none⟩ (.int .u32 x)) S g0 c0 gv (lh.set j x) la := by
  have hp := Kd.R_putn h.hr (j : Int) x
  rw [Int.toNat_natCast] at hp
  exact ⟨hp, h.ha.far h.ne j _, h.ne, below_set_h h.below (Kd.R_base h.hr _ rfl), h.kept.setCell (p := ⟨g0, j, none⟩) (.inl (h.hr.1 _ rfl)) _⟩
set_option maxHeartbeats 4000000 in
set_option maxRecDepth 100000 in
theorem sblock_walk (S : Nat → Prop) (g0 c0 : Nat) (l0 l1 l2 r : List Int) (ad1 ad2 : Addr) (c1 c2 : Nat) (w0 w : World) (hB : Below w0.heap.size w0 w) (ho0 : Kd.R (Kd.int .u32) 153 w w0.heap.size S (.slice (some ⟨g0, 0, none⟩) 8 c0) l0)
    (hr1 : ∀ W, Kept w W S → ∀ j, j < 64 → W.cell? (ad1.add j) = some (.int .u8 (l1.getD j 0))) (hr2 : ∀ W, Kept w W S → ∀ j, j < 64 → W.cell? (ad2.add j) = some (.int .u32 (l2.getD j 0)))
    (h0 : l0.length = 8) (h1 : l1.length = 64) (h2 : l2.length = 64) (hc1 : 64 ≤ c1) (hc2 : 64 ≤ c2) (H : spec_l01Block.v l0 l1 l2 = some r) :
    Calls Tryd.prog 171 #[.slice (some ⟨g0, 0, none⟩) 8 c0, .slice (some ad1) 64 c1, .slice (some ad2) 64 c2] w fun e w' => e = .returned (.tuple #[]) ∧ Kd.R (Kd.int .u32) 153 w' w0.heap.size S (.slice (some ⟨g0, 0, none⟩) 8 c0) r ∧ Below w0.heap.size w0 w' ∧ Kept w w' S := by
  have H0 := Aside0.mk (start0 _ _ _ _ H)
  have HR1 := Aside0.mk hr1
  have HR2 := Aside0.mk hr2
  have HO := Aside0.mk ho0
  have HB := Aside0.mk hB
  have HL := Aside0.mk (And.intro h0 (And.intro h1 h2))
  clear H hr1 hr2 ho0 hB h0 h1 h2
  go_enter Tryd.func171, Tryd.ntmps171
  go_wp2_with (first | ((with_reducible refine gate_dst (N := 18) rfl ?_); refine Kd.R_make (Kd.int .u32) _ 153 rfl (N := 18) rfl 178 _ _ rfl 64 rfl rfl Tryd.underlying178 (.int .u32 0) 4 info153 rfl (by decide) (by omega) 0 (ok := fun _ => True) (okp := fun _ => True) rfl (fun _ hk => hk) trivial (by omega) (by omega) (Below.refl _ _) (Nat.le_refl _) ?_; intro v1 w1 ho hb hg_ hnew_; clear hg_ hnew_; simp only [Int.reduceToNat] at ho; obtain ⟨gw, cw, rfl, hbase, hlt, -⟩ := Kd.R_form ho (by simp); rw [List.length_replicate] at ho ⊢; have hcw := (Kd.R_reads' ho).2.1; have F := Aside0.mk (Sk.mk (Au.of_R ho) hbase hlt hb); clear ho hb hbase hlt))
  obtain ⟨hl0, hl1, hl2⟩ := HL.out
  go_loopg [7] 16 (fun gg v7 wr => ∃ (i : Nat) (ws : List Int), i ≤ 16 ∧ gg + i = 16 ∧ v7 = .int .i64 (i : Int) ∧ ws.length = 64 ∧ Aside0 (spec_l01Block.lv0 l0 l1 l2 ws (i : Int) = some r) ∧ Aside0 (Sk w wr w.heap.size gw ws))
  case atStart => exact ⟨0, _, by omega, rfl, rfl, List.length_replicate, H0, F⟩
  case round =>
    clear F H0
    obtain ⟨i, ws, hi, hg, rfl, hws, H0, F⟩ := hrel
    by_cases hlt : i < 16
    · have c1 : ((i : Int) < 16) := by omega
      have hk := Kept.of_below F.out.below S
      obtain ⟨q0, hq0⟩ : ∃ q, q = 4 * i := ⟨_, rfl⟩
      obtain ⟨q1, hq1⟩ : ∃ q, q = 4 * i + 1 := ⟨_, rfl⟩
      obtain ⟨q2, hq2⟩ : ∃ q, q = 4 * i + 2 := ⟨_, rfl⟩
      obtain ⟨q3, hq3⟩ : ∃ q, q = 4 * i + 3 := ⟨_, rfl⟩
      have w0 : IntKind.i64.wrap (4 * (i : Int)) = (q0 : Int) := (w64id _ (by omega) (by omega)).trans (by omega)
      have w1 : IntKind.i64.wrap ((q0 : Int) + 1) = (q1 : Int) := by clear w0; exact (w64id _ (by omega) (by omega)).trans (by omega)
      have w2 : IntKind.i64.wrap ((q0 : Int) + 2) = (q2 : Int) := by clear w0 w1; exact (w64id _ (by omega) (by omega)).trans (by omega)
      have w3 : IntKind.i64.wrap ((q0 : Int) + 3) = (q3 : Int) := by clear w0 w1 w2; exact (w64id _ (by omega) (by omega)).trans (by omega)
      have b0 := HR1.out wr hk q0 (by clear w0 w1 w2 w3; omega)
      have b1 := HR1.out wr hk q1 (by clear w0 w1 w2 w3; omega)
      have b2 := HR1.out wr hk q2 (by clear w0 w1 w2 w3; omega)
      have b3 := HR1.out wr hk q3 (by clear w0 w1 w2 w3; omega)
      have e0 : (q0 : Int) < 64 := by clear w0 w1 w2 w3; omega
      have e1 : (q1 : Int) < 64 := by clear w0 w1 w2 w3; omega
      have e2 : (q2 : Int) < 64 := by clear w0 w1 w2 w3; omega
      have e3 : (q3 : Int) < 64 := by clear w0 w1 w2 w3; omega
      have ei : (i : Int) < 64 := by clear w0 w1 w2 w3; omega
      have g4 : i < ws.length := by clear w0 w1 w2 w3; omega
      have z0 := F.out.hw.cell i g4
      have z1 := F.out.hw.free i g4
      have H1 := Aside0.mk (step0 _ _ _ _ _ _ hl1 hws hlt H0.out)
      rw [← hq1, ← hq2, ← hq3, ← hq0] at H1
      generalize hx0 : l1.getD q0 0 = x0 at b0 H1
      generalize hx1 : l1.getD q1 0 = x1 at b1 H1
      generalize hx2 : l1.getD q2 0 = x2 at b2 H1
      generalize hx3 : l1.getD q3 0 = x3 at b3 H1
      generalize ws.getD i 0 = xi at z0
      clear hq0 hq1 hq2 hq3 hx0 hx1 hx2 hx3 hk H0
      go_wp2
      go_still_tail 36, (by kernel_rfl)
      change wpList _ _ _ _ _ wr.drew
      have z2 : wr.drew.cell? ⟨gw, i, none⟩ = some (.int .u32 xi) := z0
      have z3 : wr.drew.frozen? ⟨gw, i, none⟩ = false := z1
      have F2 := Aside0.mk (F.out.drew.word i g4 (word4 x0 x1 x2 x3))
      generalize wr.drew = w4 at z2 z3 F2 ⊢
      clear z0 z1 b0 b1 b2 b3 F
      go_wp2
      go_roundg (16 - (i + 1))
      case measure => omega
      case rel => exact ⟨i + 1, _, by omega, by omega, by go_num, by rw [List.length_set]; exact hws, H1, F2⟩
    · have hlt2 : ¬ ((i : Int) < 16) := by omega
      have H1 := Aside0.mk (exit0 _ _ _ _ _ _ hlt2 H0.out)
      clear H0
      go_wp2
      go_loopg [8] 48 (fun gg v8 wr => ∃ (i : Nat) (ws : List Int), i ≤ 64 ∧ 16 ≤ i ∧ gg + i = 64 ∧ v8 = .int .i64 (i : Int) ∧ ws.length = 64 ∧ Aside0 (spec_l01Block.lv1 l0 l2 ws (i : Int) = some r) ∧ Aside0 (Sk w wr w.heap.size gw ws))
      case atStart => exact ⟨16, ws, by omega, by omega, rfl, rfl, hws, H1, F⟩
      case round =>
        clear F H1 hlt2 hlt hi hws
        obtain ⟨i, ws, hi, h16, hg, rfl, hws, H0, F⟩ := hrel
        by_cases hlt : i < 64
        · have c1 : ((i : Int) < 64) := by omega
          obtain ⟨q0, hq0⟩ : ∃ q, q = i - 16 := ⟨_, rfl⟩
          obtain ⟨q1, hq1⟩ : ∃ q, q = i - 15 := ⟨_, rfl⟩
          obtain ⟨q2, hq2⟩ : ∃ q, q = i - 7 := ⟨_, rfl⟩
          obtain ⟨q3, hq3⟩ : ∃ q, q = i - 2 := ⟨_, rfl⟩
          have w0 : IntKind.i64.wrap ((i : Int) - 16) = (q0 : Int) := (w64id _ (by omega) (by omega)).trans (by omega)
          have w1 : IntKind.i64.wrap ((i : Int) - 15) = (q1 : Int) := by clear w0; exact (w64id _ (by omega) (by omega)).trans (by omega)
          have w2 : IntKind.i64.wrap ((i : Int) - 7) = (q2 : Int) := by clear w0 w1; exact (w64id _ (by omega) (by omega)).trans (by omega)
          have w3 : IntKind.i64.wrap ((i : Int) - 2) = (q3 : Int) := by clear w0 w1 w2; exact (w64id _ (by omega) (by omega)).trans (by omega)
          have g0 : q0 < ws.length := by clear w0 w1 w2 w3; omega
          have g1 : q1 < ws.length := by clear w0 w1 w2 w3; omega
          have g2 : q2 < ws.length := by clear w0 w1 w2 w3; omega
          have g3 : q3 < ws.length := by clear w0 w1 w2 w3; omega
          have g4 : i < ws.length := by clear w0 w1 w2 w3; omega
          have b0 := F.out.hw.cell q0 g0
          have b1 := F.out.hw.cell q1 g1
          have b2 := F.out.hw.cell q2 g2
          have b3 := F.out.hw.cell q3 g3
          have e0 : (q0 : Int) < 64 := by clear w0 w1 w2 w3; omega
          have e1 : (q1 : Int) < 64 := by clear w0 w1 w2 w3; omega
          have e2 : (q2 : Int) < 64 := by clear w0 w1 w2 w3; omega
          have e3 : (q3 : Int) < 64 := by clear w0 w1 w2 w3; omega
          have z0 := F.out.hw.cell i g4
          have z1 := F.out.hw.free i g4
          have H1 := Aside0.mk (step1 _ _ _ _ _ hws h16 hlt H0.out)
          rw [← hq0, ← hq1, ← hq2, ← hq3] at H1
          generalize hx0 : ws.getD q0 0 = x0 at b0 H1
          generalize hx1 : ws.getD q1 0 = x1 at b1 H1
          generalize hx2 : ws.getD q2 0 = x2 at b2 H1
          generalize hx3 : ws.getD q3 0 = x3 at b3 H1
          generalize ws.getD i 0 = xi at z0
          clear hq0 hq1 hq2 hq3 hx0 hx1 hx2 hx3 g0 g1 g2 g3 H0
          go_wp2
          refine wp_region_still_tail 32 (by kernel_rfl) (by kernel_rfl) ?_
          simp only [List.take_succ_cons, List.take_zero, List.drop_succ_cons, List.drop_zero]
          repeat still_step
          still_call (stn7 _ _)
          repeat still_step
          still_call (stn18 _ _)
          repeat still_step
          still_call (stn17 _ _)
          repeat still_step
          still_call (stn19 _ _)
          repeat still_step
          refine wpStill_nil ?_
          change wpList _ _ _ _ _ wr.drew
          have z2 : wr.drew.cell? ⟨gw, i, none⟩ = some (.int .u32 xi) := z0
          have z3 : wr.drew.frozen? ⟨gw, i, none⟩ = false := z1
          have F2 := Aside0.mk (F.out.drew.word i g4 (wordX x0 (sig x1 7 18 (x1 / 8)) x2 (sig x3 17 19 (x3 / 1024))))
          generalize wr.drew = w4 at z2 z3 F2 ⊢
          clear z0 z1 b0 b1 b2 b3 F w0 w1 w2 w3
          go_wp2
          go_roundg (64 - (i + 1))
          case measure => omega
          case rel => exact ⟨i + 1, _, by omega, by omega, by omega, by go_num, by rw [List.length_set]; exact hws, H1, F2⟩
        · have hlt2 : ¬ ((i : Int) < 64) := by omega
          have H1 := Aside0.mk (exit1 _ _ _ _ hl0 _ hlt2 H0.out)
          clear H0
          have hA0 : Aside0 (Au w g0 l0) := Aside0.mk (Au.of_R HO.out)
          have hg0 := Kd.R_lt HO.out g0 rfl
          have HG := Aside0.mk hg0
          clear hg0
          go_wp2_with (first | ((with_reducible refine gate_builtin (b := .append) (xs := #[.tmp 105, .tmp 106]) rfl ?_); at_builtin; refine append8 (l0 := l0) 178 153 rfl (.tmp 105) (.tmp 106) rfl Tryd.underlying178 info153 (by rfl) (by rfl) hl0 ((hA0.out.at (F.out.below.block g0 HG.out)).at (by first | rfl | (rw [alloc_at, if_neg (by have := HG.out; have := F.out.below.size; omega)]))) (w := w) (n := w.heap.size) (gw := gw) (lw := ws) (by first | exact F.out | exact ⟨F.out.hw.at (by rw [alloc_at, if_neg (by have := F.out.lt; omega)]), F.out.mine, by rw [alloc_sz]; have := F.out.lt; omega, ⟨F.out.below.os, F.out.below.tape, F.out.below.output, by rw [alloc_sz]; have := F.out.below.size; omega, fun k hk => by rw [alloc_at, if_neg (by have := F.out.below.size; omega)]; exact F.out.below.block k hk⟩⟩) ?_; clear F; intro gv cv w6 F0; have F := Aside0.mk F0; clear F0))
          obtain ⟨h0, h1, h2, h3, h4, h5, h6, h7, rfl⟩ := eight hl0
          go_loopg [11, 12] 64 (fun gg v11 v12 wr => ∃ (i gv cv : Nat) (a0 a1 a2 a3 a4 a5 a6 a7 : Int), i ≤ 64 ∧ gg + i = 64 ∧ v11 = .slice (some ⟨gv, 0, none⟩) 8 cv ∧ v12 = .int .i64 (i : Int) ∧ Aside0 (spec_l01Block.lv2 [h0, h1, h2, h3, h4, h5, h6, h7] l2 ws [a0, a1, a2, a3, a4, a5, a6, a7] (i : Int) = some r) ∧ Aside0 (Sv w wr w.heap.size gw gv ws [a0, a1, a2, a3, a4, a5, a6, a7]))
          case atStart => exact ⟨0, gv, cv, h0, h1, h2, h3, h4, h5, h6, h7, by omega, rfl, rfl, rfl, H1, F⟩
          case round =>
            clear F H1 hlt2 hlt hi h16
            obtain ⟨i, gv, cv, a0, a1, a2, a3, a4, a5, a6, a7, hi, hg, rfl, rfl, H0, F⟩ := hrel
            by_cases hlt : i < 64
            · have c1 : ((i : Int) < 64) := by omega
              have hk := Kept.of_below F.out.below S
              obtain ⟨⟨c0_, d1, d2, d3, d4, d5, d6, d7⟩, -⟩ := F.out.ha.eight
              have bk := HR2.out wr hk i hlt
              have bw := F.out.hw.cell i (by omega)
              clear hk
              obtain ⟨xk, hxk⟩ : ∃ x, l2.getD i 0 = x := ⟨_, rfl⟩
              obtain ⟨xw, hxw⟩ : ∃ x, ws.getD i 0 = x := ⟨_, rfl⟩
              rw [hxk] at bk
              rw [hxw] at bw
              have HX := Aside0.mk (And.intro hxk hxw)
              clear hxk hxw
              go_wp2
              refine wp_region_still_lit (by kernel_rfl) (by kernel_rfl) ?_
              repeat still_step
              still_call (stn6 _ _)
              repeat still_step
              still_call (stn11 _ _)
              repeat still_step
              still_call (stn25 _ _)
              repeat still_step
              refine wpStill_nil ?_
              have F3 := Aside0.mk F.out.drew
              have c0d : wr.drew.cell? _ = _ := c0_
              have d1_ : wr.drew.cell? _ = _ := d1
              have d2_ : wr.drew.cell? _ = _ := d2
              have d3_ : wr.drew.cell? _ = _ := d3
              have d4_ : wr.drew.cell? _ = _ := d4
              have d5_ : wr.drew.cell? _ = _ := d5
              have d6_ : wr.drew.cell? _ = _ := d6
              have d7_ : wr.drew.cell? _ = _ := d7
              clear c0_ d1 d2 d3 d4 d5 d6 d7 bk bw F
              generalize hxp : IntKind.u32.wrap (IntKind.u32.wrap (_ + xk) + xw) = xp
              have hp : pX a7 a4 a5 a6 xk xw = xp := hxp
              have HP := Aside0.mk ((pX_eq _ _ _ _ _ _).symm.trans hp)
              clear hxp hp
              rw [show ({ heap := wr.heap, tape := wr.tape, drawn := wr.drawn + 1, os := wr.os, output := wr.output } : World) = wr.drew from rfl]
              generalize wr.drew = w6 at c0d d1_ d2_ d3_ d4_ d5_ d6_ d7_ F3 ⊢
              go_wp2
              refine wp_region_still_lit (by kernel_rfl) (by kernel_rfl) ?_
              repeat still_step
              still_call (stn2 _ _)
              repeat still_step
              still_call (stn13 _ _)
              repeat still_step
              still_call (stn22 _ _)
              repeat still_step
              refine wpStill_nil ?_
              obtain ⟨⟨c0_, d1, d2, d3, d4, d5, d6, d7⟩, -⟩ := F3.out.drew.ha.eight
              have F4 := Aside0.mk F3.out.drew
              clear c0d d1_ d2_ d3_ d4_ d5_ d6_ d7_ F3
              generalize hxq : IntKind.u32.wrap (_ + Go.bits .xor .u32 _ (Go.bits .and .u32 a1 a2)) = xq
              have hq : qW a0 a1 a2 = xq := hxq
              have HQ := Aside0.mk hq
              clear hxq hq
              rw [show ({ heap := w6.heap, tape := w6.tape, drawn := w6.drawn + 1, os := w6.os, output := w6.output } : World) = w6.drew from rfl]
              generalize w6.drew = w7 at c0_ d1 d2 d3 d4 d5 d6 d7 F4 ⊢
              have H1 := Aside0.mk (step2w _ _ _ _ _ _ _ _ _ _ _ _ _ hws hl2 hlt xk xw xp xq HX.out.1 HX.out.2 HP.out HQ.out H0.out)
              clear H0
              go_wp2
              refine wp_region_still_tail 26 (by kernel_rfl) (by kernel_rfl) ?_
              simp only [List.take_succ_cons, List.take_zero, List.drop_succ_cons, List.drop_zero]
              repeat still_step
              refine wpStill_nil ?_
              change wpList _ _ _ _ _ w7.drew
              have F5 := Aside0.mk F4.out.drew
              clear c0_ d1 d2 d3 d4 d5 d6 d7 F4
              generalize w7.drew = w8 at F5 ⊢
              go_wp2
              go_roundg (64 - (i + 1))
              case measure => omega
              case rel => exact ⟨i + 1, w8.heap.size, 8, (xp + xq) % 4294967296, a0, a1, a2, (a3 + xp) % 4294967296, a4, a5, a6, by omega, by omega, rfl, by go_num, H1, ⟨F5.out.lit [(xp + xq) % 4294967296, a0, a1, a2, (a3 + xp) % 4294967296, a4, a5, a6] 153⟩⟩
            · have hlt2 : ¬ ((i : Int) < 64) := by omega
              have H1 := Aside0.mk (exit2 _ _ _ _ _ _ hlt2 H0.out)
              clear H0
              have F2 : Aside0 (St w0 w wr S g0 c0 gv [h0, h1, h2, h3, h4, h5, h6, h7] [a0, a1, a2, a3, a4, a5, a6, a7]) := Aside0.mk ⟨Kd.R_below HO.out F.out.below, F.out.ha, by have := F.out.mv; have := HG.out; omega, HB.out.trans (F.out.below.mono HB.out.size), Kept.of_below F.out.below S⟩
              clear F
              go_wp2
              go_loopg [17] 8 (fun gg v17 wr => ∃ (i : Nat) (lh : List Int), i ≤ 8 ∧ gg + i = 8 ∧ v17 = .int .i64 (i : Int) ∧ lh.length = 8 ∧ Aside0 (spec_l01Block.lv3 lh [a0, a1, a2, a3, a4, a5, a6, a7] (i : Int) = some r) ∧ Aside0 (St w0 w wr S g0 c0 gv lh [a0, a1, a2, a3, a4, a5, a6, a7]))
              case atStart => exact ⟨0, _, by omega, rfl, rfl, rfl, H1, F2⟩
              case round =>
                clear F2 H1 hlt2 hlt hi
                obtain ⟨i, lh, hi, hg, rfl, hlh, H0, F⟩ := hrel
                by_cases hlt : i < 8
                · have c1 : ((i : Int) < 8) := by omega
                  have H1 := Aside0.mk (step3 _ _ _ _ hlh rfl hlt H0.out)
                  obtain ⟨b0, z1⟩ := Kd.R_celln 0 F.out.hr (i : Int) (by omega) (by omega)
                  have b1 := F.out.ha.cell i (by simpa using hlt)
                  rw [Int.toNat_natCast] at b0 z1
                  have b0' : wr.cell? ⟨g0, i, none⟩ = some (.int .u32 (lh.getD i 0)) := by simpa [rdOf] using b0
                  clear H0 b0
                  obtain ⟨x0, hx0⟩ : ∃ x, lh.getD i 0 = x := ⟨_, rfl⟩
                  obtain ⟨x1, hx1⟩ : ∃ x, ([a0, a1, a2, a3, a4, a5, a6, a7] : List Int).getD i 0 = x := ⟨_, rfl⟩
                  rw [hx0] at b0' H1
                  rw [hx1] at b1 H1
                  rw [u32w_h] at H1
                  clear hx0 hx1
                  go_wp2
                  refine wp_region_still_tail 10 (by kernel_rfl) (by kernel_rfl) ?_
                  simp only [List.take_succ_cons, List.take_zero, List.drop_succ_cons, List.drop_zero]
                  repeat still_step
                  refine wpStill_nil ?_
                  change wpList _ _ _ _ _ wr.drew
                  have z2 : wr.drew.cell? ⟨g0, i, none⟩ = some (.int .u32 x0) := b0'
                  have z3 : wr.drew.frozen? ⟨g0, i, none⟩ = false := z1
                  have F2 := Aside0.mk (F.out.drew.set i ((x0 + x1) % 4294967296))
                  generalize wr.drew = w4 at z2 z3 F2 ⊢
                  clear z1 b0' b1 F
                  go_wp2
                  go_roundg (8 - (i + 1))
                  case measure => omega
                  case rel => exact ⟨i + 1, _, by omega, by omega, by go_num, by rw [List.length_set]; exact hlh, H1, F2⟩
                · have hlt2 : ¬ ((i : Int) < 8) := by omega
                  have e := exit3 _ _ _ _ hlt2 H0.out
                  subst e
                  clear H0
                  go_wp2
                  first | go_end0 | ((try simp only [Exit.inBlock, Exit.then]); refine bodyPost_ret (results_none rfl _ _ _) rfl ?_)
                  exact ⟨rfl, F.out.hr, F.out.below, F.out.kept⟩
end Go.Proofs.YtadablpppkjdbaaDoor.A
end

section
namespace Go.Proofs.YtadablpppkjdbaaDoor.A
open Go.RowKit Go.Proofs.YtadablpppkjdbaaDoorW.PrintWords Go.Proofs.YtadablpppkjdbaaDoorW.PrintLast Go.Proofs.YtadablpppkjdbaaDoorW.PrintMore
attribute [local go_sem] max2_int min2_int max_two min_two max_three min_three max_four min_four
theorem spec_l01Block.calls (k : Nat) (P0_ : Nat → Prop) (u9000_ : Value) (l0 : List Int) (A1 : Option Addr) (c1 : Nat) (l1 : List Int) (A2 : Option Addr) (c2 : Nat) (l2 : List Int) (r : List Int) (w0 w : World) (hB : Below w0.heap.size w0 w) (ho0 : Kd.R (Kd.int .u32) 153 w w0.heap.size P0_ u9000_ l0) (hr1 : ∀ W_,Kept w W_ (fun k_ => P0_ k_) → Kd.C (Kd.int .u8) W_ A1 l1.length l1) (hc1 : l1.length ≤ c1) (hr2 : ∀ W_,Kept w W_ (fun k_ => P0_ k_) → Kd.C (Kd.int .u32) W_ A2 l2.length l2) (hc2 : l2.length ≤ c2) (h : spec_l01Block.f k l0 l1 l2 = some r) :
  Calls Tryd.prog 171 #[u9000_,.slice A1 l1.length c1,.slice A2 l2.length c2] w fun e w' => e = .returned (.tuple #[]) ∧ Kd.R (Kd.int .u32) 153 w' w0.heap.size (fun k_ => (P0_ k_ ∨ w.heap.size ≤ k_)) u9000_ r ∧ Below w0.heap.size w0 w' ∧ Kept w w' (fun k_ => P0_ k_) := by
 unfold spec_l01Block.f at h
 by_cases c : l0.length = 8 ∧ l1.length = 64 ∧ l2.length = 64
 ·have hv : spec_l01Block.v l0 l1 l2 = some r := (spec_l01Block.v_lim l0 l1 l2).up k r h
  obtain ⟨h0,h1,h2⟩ := c
  obtain ⟨g0,c0,rfl,-,-,-⟩ := Kd.R_form ho0 (by omega)
  obtain ⟨ad1,rfl,-⟩ := C_cells (hr1 w (Kept.refl w _)) (by omega)
  obtain ⟨ad2,rfl,-⟩ := C_cells (hr2 w (Kept.refl w _)) (by omega)
  have k1 : ∀ W,Kept w W P0_ → ∀ j,j < 64 → W.cell? (ad1.add j) = some (.int .u8 (l1.getD j 0)) := fun W hk j hj => by
   obtain ⟨ad,e,hc⟩ := C_cells (hr1 W hk) (by omega)
   injection e with e
   subst e
   exact hc j (by omega)
  have k2 : ∀ W,Kept w W P0_ → ∀ j,j < 64 → W.cell? (ad2.add j) = some (.int .u32 (l2.getD j 0)) := fun W hk j hj => by
   obtain ⟨ad,e,hc⟩ := C_cells (hr2 W hk) (by omega)
   injection e with e
   subst e
   exact hc j (by omega)
  rw [h0] at ho0 ⊢
  rw [h1] at hc1 ⊢
  rw [h2] at hc2 ⊢
  exact (sblock_walk P0_ g0 c0 l0 l1 l2 r ad1 ad2 c1 c2 w0 w hB ho0 k1 k2 h0 h1 h2 hc1 hc2 hv).mono fun e w' ⟨he,hr,hb,hk⟩ => ⟨he,Kd.R_mono hr (fun k_ hk_ => .inl hk_),hb,hk⟩
 ·rw [if_neg c] at h
  cases h
set_option maxHeartbeats 8000000 in
set_option maxRecDepth 100000 in
theorem spec_l01Consts.calls  (r : List Int) (w : World) (h : spec_l01Consts.f  = some r) :
  Calls Tryd.prog 170 #[] w fun e w' => ∃ v0_ : Value,e = .returned (v0_) ∧ Kd.R (Kd.int .u32) 153 w' w.heap.size (fun _ => True) v0_ r ∧ Below w.heap.size w w' := by
 have HB := am_ (Below.refl w.heap.size w)
 have H : (some (([1116352408,1899447441,3049323471,3921009573,961987163,1508970993,2453635748,2870763221,3624381080,310598401,607225278,1426881987,1925078388,2162078206,2614888103,3248222580,3835390401,4022224774,264347078,604807628,770255983,1249150122,1555081692,1996064986,2554220882,2821834349,2952996808,3210313671,3336571891,3584528711,113926993,338241895,666307205,773529912,1294757372,1396182291,1695183700,1986661051,2177026350,2456956037,2730485921,2820302411,3259730800,3345764771,3516065817,3600352804,4094571909,275423344,430227734,506948616,659060556,883997877,958139571,1322822218,1537002063,1747873779,1955562222,2024104815,2227730452,2361852424,2428436474,2756734187,3204031479,3329325298] : List Int))) = some r := h
 clear h
 obtain ⟨y105,hy105⟩ : ∃ y_ : List Int,y_ = (([1116352408,1899447441,3049323471,3921009573,961987163,1508970993,2453635748,2870763221,3624381080,310598401,607225278,1426881987,1925078388,2162078206,2614888103,3248222580,3835390401,4022224774,264347078,604807628,770255983,1249150122,1555081692,1996064986,2554220882,2821834349,2952996808,3210313671,3336571891,3584528711,113926993,338241895,666307205,773529912,1294757372,1396182291,1695183700,1986661051,2177026350,2456956037,2730485921,2820302411,3259730800,3345764771,3516065817,3600352804,4094571909,275423344,430227734,506948616,659060556,883997877,958139571,1322822218,1537002063,1747873779,1955562222,2024104815,2227730452,2361852424,2428436474,2756734187,3204031479,3329325298] : List Int)) := ⟨_,rfl⟩
 replace H : (some y105) = some r := by first | (rw [hy105];with_reducible exact H) | (have H2_ := (Option.bind_some _ _).symm.trans H;rw [hy105];with_reducible exact H2_) | (have H2_ := (Option.bind_some _ _).symm.trans H;with_reducible exact H2_) | with_reducible exact H | (rw [hy105];exact H) | exact H
 have Ny105 := am_ hy105
 clear hy105
 obtain rfl := Option.some.inj H
 go_enter Tryd.func170,Tryd.ntmps170
 go_wp2_with (first | ((with_reducible refine gate_dst (N := 1) rfl ?_);refine Kd.R_lit (Kd.int .u32) _ 153 ?hg (N := 1) ?hd (xs := ([1116352408,1899447441,3049323471,3921009573,961987163,1508970993,2453635748,2870763221,3624381080,310598401,607225278,1426881987,1925078388,2162078206,2614888103,3248222580,3835390401,4022224774,264347078,604807628,770255983,1249150122,1555081692,1996064986,2554220882,2821834349,2952996808,3210313671,3336571891,3584528711,113926993,338241895,666307205,773529912,1294757372,1396182291,1695183700,1986661051,2177026350,2456956037,2730485921,2820302411,3259730800,3345764771,3516065817,3600352804,4094571909,275423344,430227734,506948616,659060556,883997877,958139571,1322822218,1537002063,1747873779,1955562222,2024104815,2227730452,2361852424,2428436474,2756734187,3204031479,3329325298] : List Int)) (inner := [.int .u32 1116352408,.int .u32 1899447441,.int .u32 3049323471,.int .u32 3921009573,.int .u32 961987163,.int .u32 1508970993,.int .u32 2453635748,.int .u32 2870763221,.int .u32 3624381080,.int .u32 310598401,.int .u32 607225278,.int .u32 1426881987,.int .u32 1925078388,.int .u32 2162078206,.int .u32 2614888103,.int .u32 3248222580,.int .u32 3835390401,.int .u32 4022224774,.int .u32 264347078,.int .u32 604807628,.int .u32 770255983,.int .u32 1249150122,.int .u32 1555081692,.int .u32 1996064986,.int .u32 2554220882,.int .u32 2821834349,.int .u32 2952996808,.int .u32 3210313671,.int .u32 3336571891,.int .u32 3584528711,.int .u32 113926993,.int .u32 338241895,.int .u32 666307205,.int .u32 773529912,.int .u32 1294757372,.int .u32 1396182291,.int .u32 1695183700,.int .u32 1986661051,.int .u32 2177026350,.int .u32 2456956037,.int .u32 2730485921,.int .u32 2820302411,.int .u32 3259730800,.int .u32 3345764771,.int .u32 3516065817,.int .u32 3600352804,.int .u32 4094571909,.int .u32 275423344,.int .u32 430227734,.int .u32 506948616,.int .u32 659060556,.int .u32 883997877,.int .u32 958139571,.int .u32 1322822218,.int .u32 1537002063,.int .u32 1747873779,.int .u32 1955562222,.int .u32 2024104815,.int .u32 2227730452,.int .u32 2361852424,.int .u32 2428436474,.int .u32 2756734187,.int .u32 3204031479,.int .u32 3329325298]) (ok := fun _ => True) (okp := fun _ => True) ?hr ?hp (fun _ hk => hk) trivial (Below.refl _ _) (Nat.le_refl _) (by simp) ?_;(case hd => rfl);(case hg => rfl);(case hr => first | (go_simp;done) | (go_simp;rfl));(case hp => exact (Reps.one (show Kd.M (Kd.int .u32) _ _ _ 1116352408 [.int .u32 1116352408] from rfl) (Reps.one (show Kd.M (Kd.int .u32) _ _ _ 1899447441 [.int .u32 1899447441] from rfl) (Reps.one (show Kd.M (Kd.int .u32) _ _ _ 3049323471 [.int .u32 3049323471] from rfl) (Reps.one (show Kd.M (Kd.int .u32) _ _ _ 3921009573 [.int .u32 3921009573] from rfl) (Reps.one (show Kd.M (Kd.int .u32) _ _ _ 961987163 [.int .u32 961987163] from rfl) (Reps.one (show Kd.M (Kd.int .u32) _ _ _ 1508970993 [.int .u32 1508970993] from rfl) (Reps.one (show Kd.M (Kd.int .u32) _ _ _ 2453635748 [.int .u32 2453635748] from rfl) (Reps.one (show Kd.M (Kd.int .u32) _ _ _ 2870763221 [.int .u32 2870763221] from rfl) (Reps.one (show Kd.M (Kd.int .u32) _ _ _ 3624381080 [.int .u32 3624381080] from rfl) (Reps.one (show Kd.M (Kd.int .u32) _ _ _ 310598401 [.int .u32 310598401] from rfl) (Reps.one (show Kd.M (Kd.int .u32) _ _ _ 607225278 [.int .u32 607225278] from rfl) (Reps.one (show Kd.M (Kd.int .u32) _ _ _ 1426881987 [.int .u32 1426881987] from rfl) (Reps.one (show Kd.M (Kd.int .u32) _ _ _ 1925078388 [.int .u32 1925078388] from rfl) (Reps.one (show Kd.M (Kd.int .u32) _ _ _ 2162078206 [.int .u32 2162078206] from rfl) (Reps.one (show Kd.M (Kd.int .u32) _ _ _ 2614888103 [.int .u32 2614888103] from rfl) (Reps.one (show Kd.M (Kd.int .u32) _ _ _ 3248222580 [.int .u32 3248222580] from rfl) (Reps.one (show Kd.M (Kd.int .u32) _ _ _ 3835390401 [.int .u32 3835390401] from rfl) (Reps.one (show Kd.M (Kd.int .u32) _ _ _ 4022224774 [.int .u32 4022224774] from rfl) (Reps.one (show Kd.M (Kd.int .u32) _ _ _ 264347078 [.int .u32 264347078] from rfl) (Reps.one (show Kd.M (Kd.int .u32) _ _ _ 604807628 [.int .u32 604807628] from rfl) (Reps.one (show Kd.M (Kd.int .u32) _ _ _ 770255983 [.int .u32 770255983] from rfl) (Reps.one (show Kd.M (Kd.int .u32) _ _ _ 1249150122 [.int .u32 1249150122] from rfl) (Reps.one (show Kd.M (Kd.int .u32) _ _ _ 1555081692 [.int .u32 1555081692] from rfl) (Reps.one (show Kd.M (Kd.int .u32) _ _ _ 1996064986 [.int .u32 1996064986] from rfl) (Reps.one (show Kd.M (Kd.int .u32) _ _ _ 2554220882 [.int .u32 2554220882] from rfl) (Reps.one (show Kd.M (Kd.int .u32) _ _ _ 2821834349 [.int .u32 2821834349] from rfl) (Reps.one (show Kd.M (Kd.int .u32) _ _ _ 2952996808 [.int .u32 2952996808] from rfl) (Reps.one (show Kd.M (Kd.int .u32) _ _ _ 3210313671 [.int .u32 3210313671] from rfl) (Reps.one (show Kd.M (Kd.int .u32) _ _ _ 3336571891 [.int .u32 3336571891] from rfl) (Reps.one (show Kd.M (Kd.int .u32) _ _ _ 3584528711 [.int .u32 3584528711] from rfl) (Reps.one (show Kd.M (Kd.int .u32) _ _ _ 113926993 [.int .u32 113926993] from rfl) (Reps.one (show Kd.M (Kd.int .u32) _ _ _ 338241895 [.int .u32 338241895] from rfl) (Reps.one (show Kd.M (Kd.int .u32) _ _ _ 666307205 [.int .u32 666307205] from rfl) (Reps.one (show Kd.M (Kd.int .u32) _ _ _ 773529912 [.int .u32 773529912] from rfl) (Reps.one (show Kd.M (Kd.int .u32) _ _ _ 1294757372 [.int .u32 1294757372] from rfl) (Reps.one (show Kd.M (Kd.int .u32) _ _ _ 1396182291 [.int .u32 1396182291] from rfl) (Reps.one (show Kd.M (Kd.int .u32) _ _ _ 1695183700 [.int .u32 1695183700] from rfl) (Reps.one (show Kd.M (Kd.int .u32) _ _ _ 1986661051 [.int .u32 1986661051] from rfl) (Reps.one (show Kd.M (Kd.int .u32) _ _ _ 2177026350 [.int .u32 2177026350] from rfl) (Reps.one (show Kd.M (Kd.int .u32) _ _ _ 2456956037 [.int .u32 2456956037] from rfl) (Reps.one (show Kd.M (Kd.int .u32) _ _ _ 2730485921 [.int .u32 2730485921] from rfl) (Reps.one (show Kd.M (Kd.int .u32) _ _ _ 2820302411 [.int .u32 2820302411] from rfl) (Reps.one (show Kd.M (Kd.int .u32) _ _ _ 3259730800 [.int .u32 3259730800] from rfl) (Reps.one (show Kd.M (Kd.int .u32) _ _ _ 3345764771 [.int .u32 3345764771] from rfl) (Reps.one (show Kd.M (Kd.int .u32) _ _ _ 3516065817 [.int .u32 3516065817] from rfl) (Reps.one (show Kd.M (Kd.int .u32) _ _ _ 3600352804 [.int .u32 3600352804] from rfl) (Reps.one (show Kd.M (Kd.int .u32) _ _ _ 4094571909 [.int .u32 4094571909] from rfl) (Reps.one (show Kd.M (Kd.int .u32) _ _ _ 275423344 [.int .u32 275423344] from rfl) (Reps.one (show Kd.M (Kd.int .u32) _ _ _ 430227734 [.int .u32 430227734] from rfl) (Reps.one (show Kd.M (Kd.int .u32) _ _ _ 506948616 [.int .u32 506948616] from rfl) (Reps.one (show Kd.M (Kd.int .u32) _ _ _ 659060556 [.int .u32 659060556] from rfl) (Reps.one (show Kd.M (Kd.int .u32) _ _ _ 883997877 [.int .u32 883997877] from rfl) (Reps.one (show Kd.M (Kd.int .u32) _ _ _ 958139571 [.int .u32 958139571] from rfl) (Reps.one (show Kd.M (Kd.int .u32) _ _ _ 1322822218 [.int .u32 1322822218] from rfl) (Reps.one (show Kd.M (Kd.int .u32) _ _ _ 1537002063 [.int .u32 1537002063] from rfl) (Reps.one (show Kd.M (Kd.int .u32) _ _ _ 1747873779 [.int .u32 1747873779] from rfl) (Reps.one (show Kd.M (Kd.int .u32) _ _ _ 1955562222 [.int .u32 1955562222] from rfl) (Reps.one (show Kd.M (Kd.int .u32) _ _ _ 2024104815 [.int .u32 2024104815] from rfl) (Reps.one (show Kd.M (Kd.int .u32) _ _ _ 2227730452 [.int .u32 2227730452] from rfl) (Reps.one (show Kd.M (Kd.int .u32) _ _ _ 2361852424 [.int .u32 2361852424] from rfl) (Reps.one (show Kd.M (Kd.int .u32) _ _ _ 2428436474 [.int .u32 2428436474] from rfl) (Reps.one (show Kd.M (Kd.int .u32) _ _ _ 2756734187 [.int .u32 2756734187] from rfl) (Reps.one (show Kd.M (Kd.int .u32) _ _ _ 3204031479 [.int .u32 3204031479] from rfl) (Reps.one (show Kd.M (Kd.int .u32) _ _ _ 3329325298 [.int .u32 3329325298] from rfl) (Reps.none _ _))))))))))))))))))))))))))))))))))))))))))))))))))))))))))))))))));intro v106 w1 ho2 hb hg_ hnew_;clear hg_ hnew_;(first | rw [← Ny105.out] at ho2 | (simp only [Int.reduceToNat] at ho2;rw [← Ny105.out] at ho2));have HO107 := am_ (Kd.R_lower ho2 (below_size (zl_ HB)));replace HB := zs_ HB hb;clear hb ho2))
 go_ret
 exact ⟨_,zt_,zr HO107,zl_ HB⟩
def spec_l01Hash.T18 : Bool × List (List Nat × List Nat) := (true,[([],[]),([],[]),([],[]),([1,2],[1,2]),([3],[3]),([4],[4]),([5],[5]),([],[]),([],[]),([7,8],[7,8]),([9],[9]),([10],[10]),([11],[11]),([],[]),([],[]),([13,14],[13,14]),([15],[15]),([16],[16]),([17],[17]),([],[]),([],[]),([19,20],[19,20]),([21],[21]),([22],[22]),([6,12,18,23],[6,12,18,23]),([0,24],[0,24]),([25,25,0,1,2,3,4,5,6,7,8,9,10,11,12,13,14,15,16,17,18,19,20,21,22,23,24,25],[0,25])])
def spec_l01Hash.B18 : List Nat := [0,0,0,6,14,30,62,0,0,384,896,1920,3968,0,0,24576,57344,122880,253952,0,0,1572864,3670016,7864320,16777214,33554431,67108863]
theorem spec_l01Hash.tab18 : rtab .any (opsOf Tryd.f123 18) = spec_l01Hash.T18 := by kernel_rfl
theorem spec_l01Hash.bits18 : waitsOk spec_l01Hash.T18.2 spec_l01Hash.B18 = true := by kernel_rfl
set_option maxHeartbeats 8000000 in
set_option maxRecDepth 100000 in
theorem spec_l01Hash.calls (k : Nat) (A0 : Option Addr) (c0 : Nat) (l0 : List Int) (r : ByteArray) (w : World) (hr0 : Kd.C (Kd.int .u8) w A0 l0.length l0) (hc0 : l0.length ≤ c0) (h : spec_l01Hash.f k l0 = some r) :
  Calls Tryd.prog 123 #[.slice A0 l0.length c0] w fun e w' => e = .returned (.string r) ∧ Below w.heap.size w w' := by
 have HR0 := am_ hr0
 have HC0 := am_ hc0
 clear hr0 hc0
 have HB := am_ (Below.refl w.heap.size w)
 have H : ((some (([] : List Int) : List Int)).bind fun y164 => (if y164.length + l0.length < 140737488355328 then ((some (y164 ++ l0 : List Int)).bind fun y167 => (if y167.length < 140737488355328 then (spec_l01Hash.l0 k l0 (([1779033703,3144134277,1013904242,2773480762,1359893119,2600822924,528734635,1541459225] : List Int)) (y167 ++ [128])) else (none))) else (none))) = some r := h
 clear h
 obtain ⟨y161,hy161⟩ : ∃ y_ : List Int,y_ = (([1779033703,3144134277,1013904242,2773480762,1359893119,2600822924,528734635,1541459225] : List Int)) := ⟨_,rfl⟩
 replace H : ((some (([] : List Int) : List Int)).bind fun y164 => (if y164.length + l0.length < 140737488355328 then ((some (y164 ++ l0 : List Int)).bind fun y167 => (if y167.length < 140737488355328 then (spec_l01Hash.l0 k l0 y161 (y167 ++ [128])) else (none))) else (none))) = some r := by first | (rw [hy161];with_reducible exact H) | (have H2_ := (Option.bind_some _ _).symm.trans H;rw [hy161];with_reducible exact H2_) | (have H2_ := (Option.bind_some _ _).symm.trans H;with_reducible exact H2_) | with_reducible exact H | (rw [hy161];exact H) | exact H
 have Ny161 := am_ hy161
 clear hy161
 obtain ⟨y164,hy164⟩ : ∃ y_ : List Int,y_ = (([] : List Int)) := ⟨_,rfl⟩
 replace H : (if y164.length + l0.length < 140737488355328 then ((some (y164 ++ l0 : List Int)).bind fun y167 => (if y167.length < 140737488355328 then (spec_l01Hash.l0 k l0 y161 (y167 ++ [128])) else (none))) else (none)) = some r := by first | (rw [hy164];with_reducible exact H) | (have H2_ := (Option.bind_some _ _).symm.trans H;rw [hy164];with_reducible exact H2_) | (have H2_ := (Option.bind_some _ _).symm.trans H;with_reducible exact H2_) | with_reducible exact H | (rw [hy164];exact H) | exact H
 have Ny164 := am_ hy164
 clear hy164
 by_cases c2 : y164.length + l0.length < 140737488355328
 ·rw [if_pos c2] at H
  have LMc2 := am_ c2
  clear c2
  obtain ⟨y167,hy167⟩ : ∃ y_ : List Int,y_ = (y164 ++ l0) := ⟨_,rfl⟩
  replace H : (if y167.length < 140737488355328 then (spec_l01Hash.l0 k l0 y161 (y167 ++ [128])) else (none)) = some r := by first | (rw [hy167];with_reducible exact H) | (have H2_ := (Option.bind_some _ _).symm.trans H;rw [hy167];with_reducible exact H2_) | (have H2_ := (Option.bind_some _ _).symm.trans H;with_reducible exact H2_) | with_reducible exact H | (rw [hy167];exact H) | exact H
  have Ny167 := am_ hy167
  clear hy167
  by_cases c3 : y167.length < 140737488355328
  ·rw [if_pos c3] at H
   have LMc3 := am_ c3
   clear c3
   obtain ⟨y170,hy170⟩ : ∃ y_ : List Int,y_ = (y167 ++ [128]) := ⟨_,rfl⟩
   replace H : (spec_l01Hash.l0 k l0 y161 y170) = some r := by first | (rw [hy170];with_reducible exact H) | (have H2_ := (Option.bind_some _ _).symm.trans H;rw [hy170];with_reducible exact H2_) | (have H2_ := (Option.bind_some _ _).symm.trans H;with_reducible exact H2_) | with_reducible exact H | (rw [hy170];exact H) | exact H
   have Ny170 := am_ hy170
   clear hy170
   have H' := am_ H
   clear H
   go_enter Tryd.func123,Tryd.ntmps123
   go_wp2_with (first | ((with_reducible refine gate_dst (N := 10) rfl ?_);refine Kd.R_lit (Kd.int .u32) _ 153 ?hg (N := 10) ?hd (xs := ([1779033703,3144134277,1013904242,2773480762,1359893119,2600822924,528734635,1541459225] : List Int)) (inner := [.int .u32 1779033703,.int .u32 3144134277,.int .u32 1013904242,.int .u32 2773480762,.int .u32 1359893119,.int .u32 2600822924,.int .u32 528734635,.int .u32 1541459225]) (ok := fun _ => True) (okp := fun _ => True) ?hr ?hp (fun _ hk => hk) trivial (Below.refl _ _) (Nat.le_refl _) (by simp) ?_;(case hd => rfl);(case hg => rfl);(case hr => first | (go_simp;done) | (go_simp;rfl));(case hp => exact (Reps.one (show Kd.M (Kd.int .u32) _ _ _ 1779033703 [.int .u32 1779033703] from rfl) (Reps.one (show Kd.M (Kd.int .u32) _ _ _ 3144134277 [.int .u32 3144134277] from rfl) (Reps.one (show Kd.M (Kd.int .u32) _ _ _ 1013904242 [.int .u32 1013904242] from rfl) (Reps.one (show Kd.M (Kd.int .u32) _ _ _ 2773480762 [.int .u32 2773480762] from rfl) (Reps.one (show Kd.M (Kd.int .u32) _ _ _ 1359893119 [.int .u32 1359893119] from rfl) (Reps.one (show Kd.M (Kd.int .u32) _ _ _ 2600822924 [.int .u32 2600822924] from rfl) (Reps.one (show Kd.M (Kd.int .u32) _ _ _ 528734635 [.int .u32 528734635] from rfl) (Reps.one (show Kd.M (Kd.int .u32) _ _ _ 1541459225 [.int .u32 1541459225] from rfl) (Reps.none _ _))))))))));intro v162 w4 ho5 hb hg_ hnew_;clear hg_ hnew_;(first | rw [← Ny161.out] at ho5 | (simp only [Int.reduceToNat] at ho5;rw [← Ny161.out] at ho5));have HO163 := am_ (Kd.R_lower ho5 (below_size (zl_ HB)));replace HB := zs_ HB hb;clear hb ho5) | ((with_reducible refine gate_dst (N := 11) rfl ?_);refine Kd.R_lit (Kd.int .u8) _ 5 ?hg (N := 11) ?hd (xs := ([] : List Int)) (inner := []) (ok := fun _ => True) (okp := fun _ => True) ?hr ?hp (fun _ hk => hk) trivial (Below.refl _ _) (Nat.le_refl _) (by simp) ?_;(case hd => rfl);(case hg => rfl);(case hr => first | (go_simp;done) | (go_simp;rfl));(case hp => exact (Reps.none _ _));intro v165 w6 ho7 hb hg_ hnew_;clear hg_ hnew_;(first | rw [← Ny164.out] at ho7 | (simp only [Int.reduceToNat] at ho7;rw [← Ny164.out] at ho7));replace HO163 := zrb HO163 hb;have HO166 := am_ (Kd.R_lower ho7 (below_size (zl_ HB)));replace HB := zs_ HB hb;clear hb ho7) | ((with_reducible refine gate_builtin (b := .append) (xs := #[.tmp 11,.tmp 12]) rfl ?_);at_builtin;refine Kd.R_append_rows (Kd.int .u8) (w0 := w) w.heap.size rfl (.tmp 11) (.tmp 12) 31 5 (.int .u8 0) 1 rfl Tryd.underlying31 info5 rfl (by decide) (by omega) v165 y164 l0 _ _ _ (fun _ => True) (fun _ => False) rfl rfl ?aO ?aR (fun _ _ h => h) (fun _ h => h.elim) ?aF ?aB ?aS ?aL ?_;(case aR => exact zc_ HR0 HB);(case aB => exact (zl_ HB));(case aF => exact (fun _ _ => trivial));(case aO => exact (zr HO166));(case aS => exact (below_size (zl_ HB)));(case aL => have := LMc2.out;omega);intro v168 w8 ho hb hg hat;rw [← Ny167.out] at ho;replace HO163 := am_ (Kd.R_over' (zr HO163) (Kd.R_typed (zr HO166)) (by decide) hg);replace HB := am_ (hb);have HO169 := am_ (ho);clear HO166;clear ho hb hg hat) | ((with_reducible refine gate_builtin (b := .append) (xs := #[.tmp 13,.tmp 14]) rfl ?_);at_builtin;refine Kd.R_append (Kd.int .u8) (w0 := w) w.heap.size rfl (.tmp 13) (.tmp 14) 31 5 (.int .u8 0) 1 rfl Tryd.underlying31 info5 rfl (by decide) (by omega) v168 y167 128 [.int .u8 128] (fun _ => True) (fun _ => False) rfl rfl ?aP (fun _ hk => hk.elim) ?aF ?aO ?aB ?aS ?aL ?_;(case aP => exact rfl);(case aB => exact (zl_ HB));(case aF => exact (fun _ _ => trivial));(case aO => exact (zr HO169));(case aS => exact (below_size (zl_ HB)));(case aL => have := LMc3.out;omega);intro v171 w9 ho hb hg hat;rw [← Ny170.out] at ho;replace HO163 := am_ (Kd.R_over' (zr HO163) (Kd.R_typed (zr HO169)) (by decide) hg);replace HB := am_ (hb);have HO172 := am_ (ho);clear HO169;clear ho hb hg hat))
   go_loopg [4] k (fun kq v4 w' => ∃ (x4_1 : List Int),Aside0 (spec_l01Hash.l0 kq l0 y161 x4_1 = some r) ∧ Aside0 (kq ≤ k) ∧ Aside0 (Kd.R (Kd.int .u32) 153 w' w.heap.size (fun _ => True) v162 y161) ∧ Aside0 (Kd.R (Kd.int .u8) 5 w' w.heap.size (fun _ => True) v4 x4_1) ∧ Aside0 (Below w.heap.size w w'))
   case atStart => exact ⟨(y170),H',⟨Nat.le_refl _⟩,⟨zr HO163⟩,⟨zr HO172⟩,⟨zl_ HB⟩⟩
   case round =>
    clear H'
    try clear c1
    try clear c2
    try clear p2
    try clear c3
    obtain ⟨x4_1,HA,HK1,HO_3,HO_4,HB⟩ := hrel
    cases gk with
    | zero => exact absurd HA.out (by simp [spec_l01Hash.l0])
    | succ k1 =>
     have H := HA.out
     clear HA
     simp only [spec_l01Hash.l0] at H
     by_cases c10 : ((x4_1.length : Int) % 64) = 56
     ·rw [if_pos c10] at H
      have c10b0 : (((x4_1.length : Int) % 64) == 56) = true := beq_iff_eq.mpr c10
      have c10b1 : (((x4_1.length : Int) % 64) != 56) = false := bne_eq_false_iff_eq.mpr c10
      clear c10
      have H' := am_ H
      clear H
      obtain ⟨Ao11,co11,eo11⟩ := Kd.R_slice HO_4.out
      subst eo11
      go_wp2
      go_loopg [4,5] k1 (fun kq v4 v5 w' => ∃ (x4_2 : List Int) (x5_2 : Int),v5 = .int .i64 x5_2 ∧ Aside0 (spec_l01Hash.l1 kq l0 y161 x4_2 x5_2 = some r) ∧ Aside0 (kq ≤ k1) ∧ Aside0 (Kd.R (Kd.int .u32) 153 w' w.heap.size (fun _ => True) v162 y161) ∧ Aside0 (Kd.R (Kd.int .u8) 5 w' w.heap.size (fun _ => True) v4 x4_2) ∧ Aside0 (Below w.heap.size w w'))
      case atStart => exact ⟨(x4_1),(7),(by first | rfl | (simp;done) | (simp [*];done)),H',⟨Nat.le_refl _⟩,⟨zr HO_3⟩,⟨zr HO_4⟩,⟨zl_ HB⟩⟩
      case round =>
       clear H'
       try clear c1
       try clear c2
       try clear p2
       try clear c3
       try clear c10
       try clear c10b0
       try clear c10b1
       try clear p2
       obtain ⟨x4_2,x5_2,rfl,HA,HK2,HO_3,HO_4,HB⟩ := hrel
       cases gk with
       | zero => exact absurd HA.out (by simp [spec_l01Hash.l1])
       | succ k2 =>
        have H := HA.out
        clear HA
        simp only [spec_l01Hash.l1] at H
        by_cases c12 : x5_2 ≥ 0
        ·rw [if_pos c12] at H
         have c12b0 : decide (0 ≤ x5_2) = true := decide_eq_true c12
         clear c12
         obtain ⟨ji13,hji13⟩ : ∃ j_ : Int,(IntKind.u64.wrap (wrap64 (8 * x5_2))) = j_ := ⟨_,rfl⟩
         replace H : (if 0 ≤ (ji13) then (if x4_2.length < 140737488355328 then (spec_l01Hash.l1 k2 l0 y161 (x4_2 ++ [(shr .i64 (wrap64 (8 * (l0.length : Int))) (ji13)) % 256]) (wrap64 (x5_2 - 1))) else (none)) else (none)) = some r := by first | (rw [hji13] at H;exact H) | (simp only [hji13] at H ⊢;exact H)
         by_cases c14 : 0 ≤ (ji13)
         ·rw [if_pos c14] at H
          have c14b0 := eq_true c14
          have c14b1 : decide (0 ≤ (ji13)) = true := decide_eq_true c14
          clear c14
          obtain ⟨ji15,hji15⟩ : ∃ j_ : Int,(shr .i64 (wrap64 (8 * (l0.length : Int))) (ji13)) = j_ := ⟨_,rfl⟩
          replace H : (if x4_2.length < 140737488355328 then (spec_l01Hash.l1 k2 l0 y161 (x4_2 ++ [(ji15) % 256]) (wrap64 (x5_2 - 1))) else (none)) = some r := by first | (rw [hji15] at H;exact H) | (simp only [hji15] at H ⊢;exact H)
          have hji15_ : ((wrap64 (8 * (l0.length : Int))) / 2 ^ min (ji13).toNat 64) = ji15 := hji15
          have hji15z : (ji13) ≤ 64 → ((wrap64 (8 * (l0.length : Int))) / 2 ^ (ji13).toNat) = ji15 := shr_small hji15
          by_cases c16 : x4_2.length < 140737488355328
          ·rw [if_pos c16] at H
           have LMc16 := am_ c16
           clear c16
           obtain ⟨y176,hy176⟩ : ∃ y_ : List Int,y_ = (x4_2 ++ [(ji15) % 256]) := ⟨_,rfl⟩
           replace H : (spec_l01Hash.l1 k2 l0 y161 y176 (wrap64 (x5_2 - 1))) = some r := by first | (rw [hy176];with_reducible exact H) | (have H2_ := (Option.bind_some _ _).symm.trans H;rw [hy176];with_reducible exact H2_) | (have H2_ := (Option.bind_some _ _).symm.trans H;with_reducible exact H2_) | with_reducible exact H | (rw [hy176];exact H) | exact H
           have Ny176 := am_ hy176
           clear hy176
           have H' := am_ H
           clear H
           go_wp2_with (first | ((with_reducible refine gate_builtin (b := .append) (xs := #[.tmp 27,.tmp 36]) rfl ?_);at_builtin;refine Kd.R_append (Kd.int .u8) (w0 := w) w.heap.size rfl (.tmp 27) (.tmp 36) 31 5 (.int .u8 0) 1 rfl Tryd.underlying31 info5 rfl (by decide) (by omega) u4 x4_2 ((ji15) % 256) [.int .u8 ((ji15) % 256)] (fun _ => True) (fun _ => False) rfl rfl ?aP (fun _ hk => hk.elim) ?aF ?aO ?aB ?aS ?aL ?_;(case aP => exact rfl);(case aB => exact (zl_ HB));(case aF => exact (fun _ _ => trivial));(case aO => exact (zr HO_4));(case aS => exact (below_size (zl_ HB)));(case aL => have := LMc16.out;omega);intro v177 w17 ho hb hg hat;rw [← Ny176.out] at ho;replace HO_3 := am_ (Kd.R_over' (zr HO_3) (Kd.R_typed (zr HO_4)) (by decide) hg);replace HB := am_ (hb);have HO178 := am_ (ho);clear HO_4;clear ho hb hg hat))
           go_roundg k2
           case measure => have := HK1.out;have := HK2.out;omega
           case rel => exact ⟨(y176),(wrap64 (x5_2 - 1)),(by first | rfl | (simp;done) | (simp [*];done)),H',⟨by have := HK1.out;have := HK2.out;omega⟩,⟨zr HO_3⟩,⟨zr HO178⟩,⟨zl_ HB⟩⟩
          ·rw [if_neg c16] at H
           exact absurd H (by simp)
         ·rw [if_neg c14] at H
          exact absurd H (by simp)
        ·rw [if_neg c12] at H
         have c12b0 : decide (0 ≤ x5_2) = false := decide_eq_false c12
         clear c12
         replace H := Option.bind_eq_some_iff.mp H
         obtain ⟨t179,A180,H⟩ := H
         try dsimp only at H
         have A18 := am_ A180
         clear A180
         have H' := am_ H
         clear H
         go_wp2_with (first | ((with_reducible refine gate_callee (f := 170) rfl ?_);refine zgl (some 38) Tryd.func170 #[] ?_;(with_reducible refine (spec_l01Consts.calls  t179 _ A18.out).mono ?_);rintro e w19 ⟨v180,rfl,ho0,hb⟩;refine ⟨_,rfl,?_⟩;replace HO_4 := zrb HO_4 hb;have HO181 := am_ (Kd.R_lower (Kd.R_new' ho0 (Kd.R_lt (zr HO_3))) (below_size (zl_ HB)));replace HO_3 := am_ (Kd.R_elder' (zr HO_3) (Kd.R_base ho0) hb);replace HB := zs_ HB hb;(try clear hb);(try clear hb2);(try clear hk);(try clear hi);(try clear ho0)))
         go_loopg [7] k2 (fun kq v7 w' => ∃ (x3_3 : List Int) (x7_3 : Int),v7 = .int .i64 x7_3 ∧ Aside0 (spec_l01Hash.l2 kq x3_3 x4_2 t179 x7_3 = some r) ∧ Aside0 (kq ≤ k2) ∧ Aside0 (Kd.R (Kd.int .u32) 153 w' w.heap.size (fun k_ => some k_ ≠ (v180 : Value).ownBlock) v162 x3_3) ∧ Aside0 (Kd.R (Kd.int .u8) 5 w' w.heap.size (fun _ => True) u4 x4_2) ∧ Aside0 (Kd.R (Kd.int .u32) 153 w' w.heap.size (fun k_ => some k_ ≠ (v162 : Value).ownBlock) v180 t179) ∧ Aside0 (Below w.heap.size w w'))
         case atStart => exact ⟨(y161),(0),(by first | rfl | (simp;done) | (simp [*];done)),H',⟨Nat.le_refl _⟩,⟨by (with_reducible repeat (first | apply r1_ | apply r2_ | apply r3_));exact Kd.R_mono HO_3.out (fun _ hk => hk.2)⟩,⟨zr HO_4⟩,⟨by (with_reducible repeat (first | apply r1_ | apply r2_ | apply r3_));exact Kd.R_mono HO181.out (fun _ hk => hk.2)⟩,⟨zl_ HB⟩⟩
         case round =>
          clear H'
          try clear c1
          try clear c2
          try clear p2
          try clear c3
          try clear p6
          try clear c10
          try clear c10b0
          try clear c10b1
          try clear c12
          try clear c12b0
          try clear c14
          try clear c14b0
          try clear c14b1
          try clear c16
          try clear c17
          try clear p2
          obtain ⟨x3_3,x7_3,rfl,HA,HK3,HO_3,HO_4,HO_6,HB⟩ := hrel
          cases gk with
          | zero => exact absurd HA.out (by simp [spec_l01Hash.l2])
          | succ k3 =>
           have H := HA.out
           clear HA
           simp only [spec_l01Hash.l2] at H
           by_cases c20 : x7_3 < (x4_2.length : Int)
           ·rw [if_pos c20] at H
            obtain ⟨je_,hje_⟩ : ∃ j_ : Int,(wrap64 (x7_3 + 64)) = j_ := ⟨_,rfl⟩
            rw [hje_] at H
            have hje_w : (IntKind.i64.wrap (x7_3 + 64)) = je_ := (i64_w _).trans hje_
            clear hje_
            have c20b0 : decide (x7_3 < (x4_2.length : Int)) = true := decide_eq_true c20
            clear c20
            by_cases c21 : 0 ≤ x7_3
            ·rw [if_pos c21] at H
             have c21b0 := eq_true c21
             have c21b1 : decide (0 ≤ x7_3) = true := decide_eq_true c21
             clear c21
             by_cases c22 : x7_3 ≤ (je_)
             ·rw [if_pos c22] at H
              have c22b0 := eq_true c22
              have c22b1 : decide (x7_3 ≤ (je_)) = true := decide_eq_true c22
              by_cases c23 : (je_) ≤ (x4_2.length : Int)
              ·rw [if_pos c23] at H
               have c23b0 := eq_true c23
               have c23b1 : decide ((je_) ≤ (x4_2.length : Int)) = true := decide_eq_true c23
               obtain ⟨y182,hy182⟩ : ∃ y_ : List Int,y_ = ((x4_2.take ((je_) : Int).toNat).drop (x7_3 : Int).toNat) := ⟨_,rfl⟩
               replace H : ((spec_l01Block.f k3 x3_3 y182 t179).bind fun t186 => (spec_l01Hash.l2 k3 t186 x4_2 t179 (je_))) = some r := by first | (rw [hy182];with_reducible exact H) | (have H2_ := (Option.bind_some _ _).symm.trans H;rw [hy182];with_reducible exact H2_) | (have H2_ := (Option.bind_some _ _).symm.trans H;with_reducible exact H2_) | with_reducible exact H | (rw [hy182];exact H) | exact H
               have Ny182 := am_ hy182
               clear hy182
               replace H := Option.bind_eq_some_iff.mp H
               obtain ⟨t186,A240,H⟩ := H
               try dsimp only at H
               have A24 := am_ A240
               clear A240
               have H' := am_ H
               clear H
               obtain ⟨Ao25,co25,eo25⟩ := Kd.R_slice HO_4.out
               subst eo25
               have q26 : ((je_) : Int) ≤ ((x4_2.length : Int) : Int) := zo_
               obtain ⟨i026,hi026,_,hsz26,_⟩ := info_parts info5
               have hroom26 : x4_2.length ≤ co25 := (Kd.R_reads' HO_4.out).2.1
               have hC26 : Kd.C (Kd.int .u8) _ Ao25 x4_2.length x4_2 := (Kd.R_reads' HO_4.out).2.2
               have ql26 : (x7_3 : Int) ≤ ((je_) : Int) := zo_
               have q026 : (0 : Int) ≤ (x7_3 : Int) := zo_
               have hcut26 := cut_mid (P := Tryd.prog) 31 5 .i64 .i64 Tryd.underlying31 hi026 1 hsz26 Ao25 x4_2.length co25 x7_3 (je_) q026 ql26 q26 hroom26
               have hr26 := Kd.C_mid (lo := (x7_3 : Int).toNat) (hi := ((je_) : Int).toNat) (c := co25) hC26 (by omega) (by omega) hroom26
               obtain ⟨A26,hA26⟩ : ∃ A1,A1 = (if co25 = (x7_3 : Int).toNat then Ao25 else (Ao25 : Option Addr).map (·.add ((x7_3 : Int).toNat * 1))) := ⟨_,rfl⟩
               obtain ⟨c26,hc26⟩ : ∃ c1,c1 = co25 - (x7_3 : Int).toNat := ⟨_,rfl⟩
               have hy26 : y182.length = ((je_) : Int).toNat - (x7_3 : Int).toNat := (by rw [Ny182.out,d1_,d2_] <;> omega)
               rw [show ((x4_2).take ((je_) : Int).toNat).drop (x7_3 : Int).toNat = y182 from Ny182.out.symm] at hr26
               replace hr26 : Kd.C (Kd.int .u8) _ A26 y182.length y182 := (by rw [hA26];exact hr26)
               rw [← hy26,← hA26,← hc26] at hcut26
               have HR185 := am_ hr26
               have HC185 := am_ (show y182.length ≤ c26 from by rw [hy26,hc26];exact Nat.sub_le_sub_right (Nat.le_trans (by omega) hroom26) _)
               clear hr26 hC26 hroom26 hi026 hsz26 hc26
               have KY26 := am_ hy26
               have KA26 := am_ hA26
               clear hy26 hA26
               have KL26 := am_ (show ((je_) : Int).toNat ≤ x4_2.length from by omega)
               have KM26 := am_ (show (x7_3 : Int).toNat ≤ ((je_) : Int).toNat from by omega)
               replace q26 := eq_true q26
               obtain ⟨Ao27,co27,eo27⟩ := Kd.R_slice HO_3.out
               subst eo27
               obtain ⟨Ao28,co28,eo28⟩ := Kd.R_slice HO_6.out
               subst eo28
               go_wp2_with (first | ((with_reducible refine gate_callee (f := 171) rfl ?_);refine zgl (some 52) Tryd.func171 #[.slice Ao27 x3_3.length co27,.slice A26 y182.length c26,.slice Ao28 t179.length co28] ?_;(with_reducible refine (spec_l01Block.calls k3 (fun k_ => some k_ = (.slice Ao27 x3_3.length co27 : Value).ownBlock) (.slice Ao27 x3_3.length co27) x3_3 _ _ y182 _ _ t179 t186 w _ ?side1 ?side2 ?side3 ?side4 ?side5 ?side6 A24.out).mono ?_);(case side1 => exact zl_ HB);(case side2 => exact Kd.R_tight rfl HO_3.out);(case side3 => exact fun W1_ hk1_ => (show Kd.C (Kd.int .u8) W1_ A26 y182.length y182 from by rw [Ny182.out,KA26.out];exact Kd.C_mid (lo := (x7_3 : Int).toNat) (hi := ((je_) : Int).toNat) (c := co25) (Kd.C_kept_own ((Kd.R_apart' HO_4.out (Kd.R_typed HO_3.out) (by decide))) (fun k_ hk_ hs_ => (hk_.2) hs_) W1_ hk1_) KM26.out KL26.out ((Kd.R_reads' HO_4.out).2.1)));(case side4 => exact HC185.out);(case side5 => exact Kd.C_kept_own (HO_6.out) (fun k_ hk_ hs_ => (hk_) hs_));(case side6 => exact (Kd.R_reads' HO_6.out).2.1);rintro e w29 ⟨rfl,hy0,hb,hkp⟩;refine ⟨_,rfl,?_⟩;replace HO_4 := am_ (Kd.R_mono (ok' := fun k_ => True) (Kd.R_keptB ((Kd.R_apart' HO_4.out (Kd.R_typed HO_3.out) (by decide))) hkp (fun k_ hk_ hs_ => (hk_.2) hs_)) (fun k_ hk_ => trivial));replace HO_3 := am_ (Kd.R_reok rfl hy0 (fun k_ e_ => HO_3.out.1 k_ e_));replace HO_6 := am_ (Kd.R_mono (ok' := fun k_ => some k_ ≠ (.slice Ao27 x3_3.length co27 : Value).ownBlock) (Kd.R_keptB (HO_6.out) hkp (fun k_ hk_ hs_ => (hk_) hs_)) (fun k_ hk_ => hk_.1));replace HB := am_ (hb);(try clear hb);(try clear hkp);(try clear hy0)))
               go_roundg k3
               case measure => have := HK1.out;have := HK2.out;have := HK3.out;omega
               case rel => exact ⟨(t186),(je_),(by first | rfl | (simp;done) | (simp [*];done)),H',⟨by have := HK1.out;have := HK2.out;have := HK3.out;omega⟩,⟨zr HO_3⟩,⟨zr HO_4⟩,⟨zr HO_6⟩,⟨zl_ HB⟩⟩
              ·rw [if_neg c23] at H
               exact absurd H (by simp)
             ·rw [if_neg c22] at H
              exact absurd H (by simp)
            ·rw [if_neg c21] at H
             exact absurd H (by simp)
           ·rw [if_neg c20] at H
            have c20b0 : decide (x7_3 < (x4_2.length : Int)) = false := decide_eq_false c20
            clear c20
            obtain ⟨y187,hy187⟩ : ∃ y_ : List Int,y_ = (([] : List Int)) := ⟨_,rfl⟩
            replace H : (spec_l01Hash.l3 k3 x3_3 y187 0) = some r := by first | (rw [hy187];with_reducible exact H) | (have H2_ := (Option.bind_some _ _).symm.trans H;rw [hy187];with_reducible exact H2_) | (have H2_ := (Option.bind_some _ _).symm.trans H;with_reducible exact H2_) | with_reducible exact H | (rw [hy187];exact H) | exact H
            have Ny187 := am_ hy187
            clear hy187
            have H' := am_ H
            clear H
            obtain ⟨Ao30,co30,eo30⟩ := Kd.R_slice HO_4.out
            subst eo30
            go_wp2_with (first | ((with_reducible refine gate_dst (N := 53) rfl ?_);refine Kd.R_lit (Kd.int .u8) _ 5 ?hg (N := 53) ?hd (xs := ([] : List Int)) (inner := []) (ok := fun _ => True) (okp := fun _ => True) ?hr ?hp (fun _ hk => hk) trivial (Below.refl _ _) (Nat.le_refl _) (by simp) ?_;(case hd => rfl);(case hg => rfl);(case hr => first | (go_simp;done) | (go_simp;rfl));(case hp => exact (Reps.none _ _));intro v188 w31 ho32 hb hg_ hnew_;clear hg_ hnew_;(first | rw [← Ny187.out] at ho32 | (simp only [Int.reduceToNat] at ho32;rw [← Ny187.out] at ho32));replace HO_3 := zrb HO_3 hb;have HO189 := am_ (Kd.R_lower (Kd.R_new' ho32 (Kd.R_lt (zr HO_4))) (below_size (zl_ HB)));replace HB := zs_ HB hb;clear hb ho32))
            go_loopg [8,9] k3 (fun kq v8 v9 w' => ∃ (x8_4 : List Int) (x9_4 : Int),v9 = .int .i64 x9_4 ∧ Aside0 (spec_l01Hash.l3 kq x3_3 x8_4 x9_4 = some r) ∧ Aside0 (kq ≤ k3) ∧ Aside0 (Kd.R (Kd.int .u32) 153 w' w.heap.size (fun _ => True) v162 x3_3) ∧ Aside0 (Kd.R (Kd.int .u8) 5 w' w.heap.size (fun _ => True) v8 x8_4) ∧ Aside0 (Below w.heap.size w w'))
            case atStart => exact ⟨(y187),(0),(by first | rfl | (simp;done) | (simp [*];done)),H',⟨Nat.le_refl _⟩,⟨by (with_reducible repeat (first | apply r1_ | apply r2_ | apply r3_));exact Kd.R_mono HO_3.out (fun _ hk => trivial)⟩,⟨by (with_reducible repeat (first | apply r1_ | apply r2_ | apply r3_));exact Kd.R_mono HO189.out (fun _ hk => trivial)⟩,⟨zl_ HB⟩⟩
            case round =>
             clear H'
             try clear c1
             try clear c2
             try clear p2
             try clear q2
             try clear c3
             try clear p6
             try clear c10
             try clear c10b0
             try clear c10b1
             try clear c12
             try clear c12b0
             try clear c14
             try clear c14b0
             try clear c14b1
             try clear c16
             try clear c17
             try clear c20
             try clear c20b0
             try clear c21
             try clear c21b0
             try clear c21b1
             try clear c22
             try clear c22b0
             try clear c22b1
             try clear c23
             try clear c23b0
             try clear c23b1
             try clear c26
             try clear q26
             try clear p2
             try clear p6
             try clear q026
             try clear q26
             obtain ⟨x8_4,x9_4,rfl,HA,HK4,HO_3,HO_8,HB⟩ := hrel
             cases gk with
             | zero => exact absurd HA.out (by simp [spec_l01Hash.l3])
             | succ k4 =>
              have H := HA.out
              clear HA
              simp only [spec_l01Hash.l3] at H
              by_cases c33 : x9_4 < 8
              ·rw [if_pos c33] at H
               have c33b0 : decide (x9_4 < 8) = true := decide_eq_true c33
               clear c33
               by_cases c34 : 0 ≤ x9_4
               ·rw [if_pos c34] at H
                have c34b0 : decide (0 ≤ x9_4) = true := decide_eq_true c34
                clear c34
                by_cases c35 : x9_4 < (x3_3.length : Int)
                ·rw [if_pos c35] at H
                 have c35b0 : decide (x9_4 < (x3_3.length : Int)) = true := decide_eq_true c35
                 clear c35
                 obtain ⟨y194,hy194⟩ : ∃ y_ : List Int,y_ = (([((rd x3_3 x9_4) / 16777216) % 256,((rd x3_3 x9_4) / 65536) % 256,((rd x3_3 x9_4) / 256) % 256,(rd x3_3 x9_4) % 256] : List Int)) := ⟨_,rfl⟩
                 replace H : (if x8_4.length + y194.length < 140737488355328 then (spec_l01Hash.l3 k4 x3_3 (x8_4 ++ y194) (wrap64 (x9_4 + 1))) else (none)) = some r := by first | (rw [hy194];with_reducible exact H) | (have H2_ := (Option.bind_some _ _).symm.trans H;rw [hy194];with_reducible exact H2_) | (have H2_ := (Option.bind_some _ _).symm.trans H;with_reducible exact H2_) | with_reducible exact H | (rw [hy194];exact H) | exact H
                 have Ny194 := am_ hy194
                 clear hy194
                 by_cases c36 : x8_4.length + y194.length < 140737488355328
                 ·rw [if_pos c36] at H
                  have LMc36 := am_ c36
                  clear c36
                  obtain ⟨y197,hy197⟩ : ∃ y_ : List Int,y_ = (x8_4 ++ y194) := ⟨_,rfl⟩
                  replace H : (spec_l01Hash.l3 k4 x3_3 y197 (wrap64 (x9_4 + 1))) = some r := by first | (rw [hy197];with_reducible exact H) | (have H2_ := (Option.bind_some _ _).symm.trans H;rw [hy197];with_reducible exact H2_) | (have H2_ := (Option.bind_some _ _).symm.trans H;with_reducible exact H2_) | with_reducible exact H | (rw [hy197];exact H) | exact H
                  have Ny197 := am_ hy197
                  clear hy197
                  have H' := am_ H
                  clear H
                  try go_wp2
                  replace HO_3 := am_ (Kd.R_drew HO_3.out)
                  replace HO_8 := am_ (Kd.R_drew HO_8.out)
                  replace HB := am_ (below_drew1 HB.out)
                  obtain ⟨Ao38,co38,eo38⟩ := Kd.R_slice HO_3.out
                  (first | subst eo38 | (injection eo38 with f1_ f2_ f3_;have f4_ := f1_.symm;have f5_ := f3_.symm;clear f1_ f2_ f3_;subst f4_;subst f5_))
                  have p190 : 0 ≤ (x9_4 : Int) := zo_
                  have q190 : x9_4 < (x3_3.length : Int) := zo_
                  obtain ⟨ad190,e190,hx190_0⟩ := Kd.at_int (Kd.R_reads' HO_3.out).2.2 x9_4 p190 q190
                  cases e190
                  replace p190 := eq_true p190
                  replace q190 := eq_true q190
                  have p191 : 0 ≤ (x9_4 : Int) := zo_
                  have q191 : x9_4 < (x3_3.length : Int) := zo_
                  obtain ⟨ad191,e191,hx191_0⟩ := Kd.at_int (Kd.R_reads' HO_3.out).2.2 x9_4 p191 q191
                  obtain rfl : ad190 = ad191 := (by injection e191)
                  replace p191 := eq_true p191
                  replace q191 := eq_true q191
                  have p192 : 0 ≤ (x9_4 : Int) := zo_
                  have q192 : x9_4 < (x3_3.length : Int) := zo_
                  obtain ⟨ad192,e192,hx192_0⟩ := Kd.at_int (Kd.R_reads' HO_3.out).2.2 x9_4 p192 q192
                  obtain rfl : ad190 = ad192 := (by injection e192)
                  replace p192 := eq_true p192
                  replace q192 := eq_true q192
                  have p193 : 0 ≤ (x9_4 : Int) := zo_
                  have q193 : x9_4 < (x3_3.length : Int) := zo_
                  obtain ⟨ad193,e193,hx193_0⟩ := Kd.at_int (Kd.R_reads' HO_3.out).2.2 x9_4 p193 q193
                  obtain rfl : ad190 = ad193 := (by injection e193)
                  replace p193 := eq_true p193
                  replace q193 := eq_true q193
                  refine start_ (n := 27) (S := fun w' => w'.cell? (ad190.add (x9_4).toNat) = some (.int .u32 (rd x3_3 x9_4)) ∧ w'.cell? (ad190.add (x9_4).toNat) = some (.int .u32 (rd x3_3 x9_4)) ∧ w'.cell? (ad190.add (x9_4).toNat) = some (.int .u32 (rd x3_3 x9_4)) ∧ w'.cell? (ad190.add (x9_4).toNat) = some (.int .u32 (rd x3_3 x9_4))) (ds := [25]) #[false,false,false,false,false,false,false,false,false,false,false,false,false,false,false,false,false,false,false,false,false,false,false,false,false,false,false] (by kernel_rfl) rfl rfl ⟨hx190_0,hx191_0,hx192_0,hx193_0⟩ (fun hHeld => ?_);refine with_tabW spec_l01Hash.tab18 spec_l01Hash.bits18 (fun HT_ HW_ => ?_)
                  generalize wr.drew = w37 at HO_3 HO_8 HB hx190_0 hx191_0 hx192_0 hx193_0 hHeld ⊢
                  refine zpu 0 (N := some 58) HT_ ?_
                  refine zpu 1 (N := some 59) HT_ ?_
                  refine zpu 2 (N := some 60) HT_ ?_
                  refine zpu 3 (N := some 61) HT_ ?_
                  refine zpu 7 (N := some 65) HT_ ?_
                  refine zpu 8 (N := some 66) HT_ ?_
                  refine zpu 9 (N := some 67) HT_ ?_
                  refine zpu 13 (N := some 71) HT_ ?_
                  refine zpu 14 (N := some 72) HT_ ?_
                  refine zpu 15 (N := some 73) HT_ ?_
                  refine zpu 19 (N := some 77) HT_ ?_
                  refine zpu 20 (N := some 78) HT_ ?_
                  refine zpu 21 (N := some 79) HT_ ?_
                  refine ztk 4 (N := some 62) HT_ HW_ hHeld ?_
                  refine zpu 5 (N := some 63) HT_ ?_
                  refine zpu 6 (N := some 64) HT_ ?_
                  refine ztk 10 (N := some 68) HT_ HW_ hHeld ?_
                  refine zpu 11 (N := some 69) HT_ ?_
                  refine zpu 12 (N := some 70) HT_ ?_
                  refine ztk 16 (N := some 74) HT_ HW_ hHeld ?_
                  refine zpu 17 (N := some 75) HT_ ?_
                  refine zpu 18 (N := some 76) HT_ ?_
                  refine ztk 22 (N := some 80) HT_ HW_ hHeld ?_
                  refine zpu 23 (N := some 81) HT_ ?_
                  refine zon 24 (N := some 82) HT_ (fun K hK => ?_)
                  refine Kd.R_lit_step (Kd.int .u8) _ 5 ?hg (N := 82) ?hd (xs := ([((rd x3_3 x9_4) / 16777216) % 256,((rd x3_3 x9_4) / 65536) % 256,((rd x3_3 x9_4) / 256) % 256,(rd x3_3 x9_4) % 256] : List Int)) (inner := [.int .u8 (((rd x3_3 x9_4) / 16777216) % 256),.int .u8 (((rd x3_3 x9_4) / 65536) % 256),.int .u8 (((rd x3_3 x9_4) / 256) % 256),.int .u8 ((rd x3_3 x9_4) % 256)]) (ok := fun _ => True) (okp := fun _ => True) ?hr ?hp (fun _ hk => hk) trivial (Below.refl _ _) (Nat.le_refl _) (by simp) ?_;(case hd => rfl);(case hg => rfl);(case hr => first | (go_simp;done) | (go_simp;rfl));(case hp => exact (Reps.one (show Kd.M (Kd.int .u8) _ _ _ (((rd x3_3 x9_4) / 16777216) % 256) [.int .u8 (((rd x3_3 x9_4) / 16777216) % 256)] from rfl) (Reps.one (show Kd.M (Kd.int .u8) _ _ _ (((rd x3_3 x9_4) / 65536) % 256) [.int .u8 (((rd x3_3 x9_4) / 65536) % 256)] from rfl) (Reps.one (show Kd.M (Kd.int .u8) _ _ _ (((rd x3_3 x9_4) / 256) % 256) [.int .u8 (((rd x3_3 x9_4) / 256) % 256)] from rfl) (Reps.one (show Kd.M (Kd.int .u8) _ _ _ ((rd x3_3 x9_4) % 256) [.int .u8 ((rd x3_3 x9_4) % 256)] from rfl) (Reps.none _ _))))))
                  intro v195 w39 ho40 hb hg_ hnew_
                  have HS0_ := (hb.cell (World.block_lt_of_cell? _ _ (hHeld.1))).trans (hHeld.1)
                  have HS1_ := (hb.cell (World.block_lt_of_cell? _ _ (hHeld.2.1))).trans (hHeld.2.1)
                  have HS2_ := (hb.cell (World.block_lt_of_cell? _ _ (hHeld.2.2.1))).trans (hHeld.2.2.1)
                  have HS3_ := (hb.cell (World.block_lt_of_cell? _ _ (hHeld.2.2.2))).trans (hHeld.2.2.2)
                  clear hg_ hnew_
                  (first | rw [← Ny194.out] at ho40 | (simp only [Int.reduceToNat] at ho40;rw [← Ny194.out] at ho40))
                  replace HO_3 := zrb HO_3 hb
                  have HO196 := am_ (Kd.R_lower (Kd.R_new' ho40 (Kd.R_lt (zr HO_8))) (below_size (zl_ HB)))
                  replace HO_8 := am_ (Kd.R_elder' (zr HO_8) (Kd.R_base ho40) hb)
                  replace HB := zs_ HB hb
                  clear hb ho40
                  obtain ⟨Ao42,co42,eo42⟩ := Kd.R_slice HO196.out
                  (first | subst eo42 | (injection eo42 with f1_ f2_ f3_;have f4_ := f1_.symm;have f5_ := f3_.symm;clear f1_ f2_ f3_;subst f4_;subst f5_))
                  refine hK.out _ _ ⟨HS0_,HS1_,HS2_,HS3_⟩ (fun hHeld => ?_)
                  clear hK K
                  refine norm_ (a' := ?_) ?_ ?_
                  rotate_left
                  ·show Act.put _ (some 82) _ = _
                   simp only [Act.put,p1_,p2_,p3_,i64_w,i32_w]
                   rfl
                  refine last_ (i := 25) (N := some 83) #[true,true,true,true,true,true,true,true,true,true,true,true,true,true,true,true,true,true,true,true,true,true,true,true,true,true,false] rfl rfl (one_of HT_.out (by kernel_rfl)) (by decide) (fun K hK => ?_)
                  refine Kd.R_append_rows_step (Kd.int .u8) (w0 := w) w.heap.size (by rfl) (.tmp 58) (.tmp 82) 31 5 (.int .u8 0) 1 rfl Tryd.underlying31 info5 rfl (by decide) (by omega) u8 x8_4 y194 _ _ _ (fun k_ => some k_ ≠ (.slice Ao42 y194.length co42 : Value).ownBlock) (fun _ => False) rfl rfl ?aO ?aR (fun _ _ h => h) (fun _ h => h.elim) ?aF ?aB ?aS ?aL ?_
                  (case aR => repeat (first | exact (Kd.R_reads' HO196.out).2.2 | (with_reducible refine Kd.C_alloc ?_ _) | (with_reducible refine Kd.C_drewN ?_ _) | (with_reducible refine Kd.C_drew ?_)))
                  (case aB => exact (zl_ HB))
                  (case aF => exact (fun k_ hk => Kd.fresh' (Kd.R_lt (zr HO196)) k_ hk))
                  (case aO => exact (by (with_reducible repeat (first | apply r1_ | apply r2_ | apply r3_));exact Kd.R_mono HO_8.out (fun _ hk => hk.2)))
                  (case aS => exact (below_size (zl_ HB)))
                  (case aL => have := LMc36.out;omega)
                  intro v198 w41 ho hb hg hat
                  rw [← Ny197.out] at ho
                  replace HO_3 := am_ (Kd.R_over' (zr HO_3) (Kd.R_typed (zr HO_8)) (by decide) hg)
                  replace HB := am_ (hb)
                  have HO199 := am_ (ho)
                  clear HO_8
                  clear ho hb hg hat
                  refine hK.out _ _ ?_
                  clear hK K
                  refine norm_ (a' := ?_) ?_ ?_
                  rotate_left
                  ·show Act.put _ (some 83) _ = _
                   simp only [Act.put,p1_,p2_,p3_,i64_w,i32_w]
                   rfl
                  refine zpu 26 (N := some 8) HT_ ?_
                  refine done_ (done_of HT_.out (by kernel_rfl)) ?_
                  try go_wp2
                  go_roundg k4
                  case measure => have := HK1.out;have := HK2.out;have := HK3.out;have := HK4.out;omega
                  case rel => exact ⟨(y197),(wrap64 (x9_4 + 1)),(by first | rfl | (simp;done) | (simp [*];done)),H',⟨by have := HK1.out;have := HK2.out;have := HK3.out;have := HK4.out;omega⟩,⟨zr HO_3⟩,⟨by (with_reducible repeat (first | apply r1_ | apply r2_ | apply r3_));exact Kd.R_mono HO199.out (fun _ hk => trivial)⟩,⟨zl_ HB⟩⟩
                 ·rw [if_neg c36] at H
                  exact absurd H (by simp)
                ·rw [if_neg c35] at H
                 exact absurd H (by simp)
               ·rw [if_neg c34] at H
                exact absurd H (by simp)
              ·rw [if_neg c33] at H
               have c33b0 : decide (x9_4 < 8) = false := decide_eq_false c33
               clear c33
               obtain rfl := Option.some.inj H
               have hcv43 := own_string (P := Tryd.prog) Tryd.underlying31 Tryd.underlying5 Tryd.underlying9 (Kd.own_of_R HO_8.out)
               go_wp2
               go_ret
               exact ⟨zt_,zl_ HB⟩
     ·rw [if_neg c10] at H
      have c10b0 : (((x4_1.length : Int) % 64) == 56) = false := beq_eq_false_iff_ne.mpr c10
      have c10b1 : (((x4_1.length : Int) % 64) != 56) = true := bne_iff_ne.mpr c10
      by_cases c44 : x4_1.length < 140737488355328
      ·rw [if_pos c44] at H
       have LMc44 := am_ c44
       clear c44
       obtain ⟨y173,hy173⟩ : ∃ y_ : List Int,y_ = (x4_1 ++ [0]) := ⟨_,rfl⟩
       replace H : (spec_l01Hash.l0 k1 l0 y161 y173) = some r := by first | (rw [hy173];with_reducible exact H) | (have H2_ := (Option.bind_some _ _).symm.trans H;rw [hy173];with_reducible exact H2_) | (have H2_ := (Option.bind_some _ _).symm.trans H;with_reducible exact H2_) | with_reducible exact H | (rw [hy173];exact H) | exact H
       have Ny173 := am_ hy173
       clear hy173
       have H' := am_ H
       clear H
       obtain ⟨Ao45,co45,eo45⟩ := Kd.R_slice HO_4.out
       subst eo45
       go_wp2_with (first | ((with_reducible refine gate_builtin (b := .append) (xs := #[.tmp 20,.tmp 21]) rfl ?_);at_builtin;refine Kd.R_append (Kd.int .u8) (w0 := w) w.heap.size rfl (.tmp 20) (.tmp 21) 31 5 (.int .u8 0) 1 rfl Tryd.underlying31 info5 rfl (by decide) (by omega) (.slice Ao45 x4_1.length co45) x4_1 0 [.int .u8 0] (fun _ => True) (fun _ => False) rfl rfl ?aP (fun _ hk => hk.elim) ?aF ?aO ?aB ?aS ?aL ?_;(case aP => exact rfl);(case aB => exact (zl_ HB));(case aF => exact (fun _ _ => trivial));(case aO => exact (zr HO_4));(case aS => exact (below_size (zl_ HB)));(case aL => have := LMc44.out;omega);intro v174 w46 ho hb hg hat;rw [← Ny173.out] at ho;replace HO_3 := am_ (Kd.R_over' (zr HO_3) (Kd.R_typed (zr HO_4)) (by decide) hg);replace HB := am_ (hb);have HO175 := am_ (ho);clear HO_4;clear ho hb hg hat))
       go_roundg k1
       case measure => have := HK1.out;omega
       case rel => exact ⟨(y173),H',⟨by have := HK1.out;omega⟩,⟨zr HO_3⟩,⟨zr HO175⟩,⟨zl_ HB⟩⟩
      ·rw [if_neg c44] at H
       exact absurd H (by simp)
  ·rw [if_neg c3] at H
   exact absurd H (by simp)
 ·rw [if_neg c2] at H
  exact absurd H (by simp)
def spec_l00Src_batch.T8 : Bool × List (List Nat × List Nat) := (true,[([],[]),([0],[0]),([],[]),([],[]),([3],[3]),([],[]),([5],[5]),([6],[6]),([7,4],[7]),([8],[8]),([2,4,9],[2,4,9]),([10],[10]),([1,11,8],[1,11]),([0,1,2,3,4,5,6,7,8,9,10,11,12],[]),([13,12,12,0,1,2,3,4,5,6,7,8,9,10,11,12],[12,13])])
def spec_l00Src_batch.B8 : List Nat := [0,1,0,0,8,0,32,96,248,504,1020,2044,4095,8191,16383]
theorem spec_l00Src_batch.tab8 : rtab .any (opsOf Tryd.f125 8) = spec_l00Src_batch.T8 := by kernel_rfl
theorem spec_l00Src_batch.bits8 : waitsOk spec_l00Src_batch.T8.2 spec_l00Src_batch.B8 = true := by kernel_rfl
set_option maxHeartbeats 8000000 in
set_option maxRecDepth 100000 in
theorem spec_l00Src_batch.calls (k : Nat) (g : Nat) (s0_0 : List Int) (s0_1 : Int) (s0_2 : Int) (r1 : Bool) (r2 : Int) (r3 : Int) (r4 : Int) (r5 : Int) (r6 : ByteArray) (r7 : List (S182)) (r8 : Int) (r9 : Int) (w0 w : World) (hI : IsS138 w0 w g s0_0 s0_1 s0_2) (hB : Below w0.heap.size w0 w) (h : spec_l00Src_batch.f k s0_0 s0_1 s0_2 = some (r1,r2,r3,r4,r5,r6,r7,r8,r9)) :
  Calls Tryd.prog 125 #[.pointer (some ⟨g,0,none⟩)] w fun e w' => ∃ v6_ : Value,e = .returned (.agg #[.bool r1,.int .i64 r2,.int .i64 r3,.int .i64 r4,.int .i64 r5,.string r6,v6_]) ∧ Kd.R k182 182 w' w.heap.size (fun _ => True) v6_ r7 ∧ IsS138 w0 w' g s0_0 r8 r9 ∧ Below w0.heap.size w0 w' ∧ KeepBut w w' g none := by
 have hu144 := Tryd.underlying144
 have hu182 := Tryd.underlying182
 have HI0 := am_ hI
 have HK := am_ (KeepBut.refl w g none)
 have HL := am_ hB.size
 clear hI
 have HW0 := am_ hB.size
 have HB := am_ hB
 clear hB
 have H : ((spec_l00Src_chance.f s0_0 s0_1 s0_2 6).bind fun bt527 => (if bt527.1 = true then (some (true,0,0,0,0,(⟨#[]⟩ : ByteArray),(([] : List (S182))),bt527.2.1,bt527.2.2)) else ((spec_l00Src_request.f s0_0 bt527.2.1 bt527.2.2).bind fun bt533 => (spec_l00Src_batch.l0 k 0 s0_0 bt533.2.2.2.2.2.1 bt533.2.2.2.2.2.2 false bt533.1 bt533.2.1 bt533.2.2.1 bt533.2.2.2.1 bt533.2.2.2.2.1 (([] : List (S182))))))) = some (r1,r2,r3,r4,r5,r6,r7,r8,r9) := h
 clear h
 replace H := Option.bind_eq_some_iff.mp H
 obtain ⟨⟨t527,t528,t529⟩,A20,H⟩ := H
 try dsimp only at H
 have A2 := am_ A20
 clear A20
 by_cases c3 : t527 = true
 ·subst c3
  have H1 : (some (true,0,0,0,0,(⟨#[]⟩ : ByteArray),(([] : List (S182))),t528,t529)) = some (r1,r2,r3,r4,r5,r6,r7,r8,r9) := by rw [if_pos rfl] at H;exact H
  clear H
  have H := H1
  clear H1
  obtain ⟨y530,hy530⟩ : ∃ y_ : List (S182),y_ = (([] : List (S182))) := ⟨_,rfl⟩
  replace H : (some (true,0,0,0,0,(⟨#[]⟩ : ByteArray),y530,t528,t529)) = some (r1,r2,r3,r4,r5,r6,r7,r8,r9) := by first | (rw [hy530];with_reducible exact H) | (have H2_ := (Option.bind_some _ _).symm.trans H;rw [hy530];with_reducible exact H2_) | (have H2_ := (Option.bind_some _ _).symm.trans H;with_reducible exact H2_) | with_reducible exact H | (rw [hy530];exact H) | exact H
  have Ny530 := am_ hy530
  clear hy530
  simp only [Option.some.injEq,Prod.mk.injEq] at H
  obtain ⟨rfl,rfl,rfl,rfl,rfl,rfl,rfl,rfl,rfl⟩ := H
  go_enter Tryd.func125,Tryd.ntmps125
  go_wp2_with (first | ((with_reducible refine gate_dst (N := 2) rfl ?_);refine zbx (N := 2) (cs := #[.bool false,.int .i64 0,.int .i64 0,.int .i64 0,.int .i64 0,.string ⟨#[]⟩,.slice none 0 0]) (t := 144) ?_;intro gb526 hg w4 hbox hb;replace HB := zs_ HB hb;have BK526 := am_ (hbox);have GW526 := am_ ((by rw [hg];exact (keep_size (w := w) (g := g) (row := none) (zh_ HK)) : w.heap.size ≤ gb526));have GE526 := am_ ((Nat.le_trans HW0.out (by rw [hg];exact (keep_size (w := w) (g := g) (row := none) (zh_ HK)) : w.heap.size ≤ gb526) : w0.heap.size ≤ gb526));replace HK := am_ (KeepBut.trans (zh_ HK) (KeepBut.of_below hb g none) (.inl rfl));have NB0_526 := am_ ((by rw [hg];exact Nat.ne_of_lt (IsS138.lt (show IsS138 w0 _ g s0_0 s0_1 s0_2 from (zi138 HI0))) : g ≠ gb526));have NB526_0 := am_ ((by rw [hg];exact Nat.ne_of_gt (IsS138.lt (show IsS138 w0 _ g s0_0 s0_1 s0_2 from (zi138 HI0))) : gb526 ≠ g));replace HI0 := am_ (IsS138.below (zi138 HI0) hb);clear hb hbox hg) | ((with_reducible refine gate_callee (f := 174) rfl ?_);refine zgl (some 6) Tryd.func174 #[.pointer (some ⟨g,0,none⟩),.int .i64 6] ?_;(with_reducible refine (spec_l00Src_chance.calls g s0_0 s0_1 s0_2 6 true t528 t529 w0 _ ?side1 ?side2 A2.out).mono ?_);(case side1 => exact zi138 HI0);(case side2 => exact zl_ HB);rintro e w5 ⟨rfl,hi,hb,hk⟩;refine ⟨_,rfl,?_⟩;replace BK526 := zkb hk BK526 NB526_0;replace HK := am_ (KeepBut.trans (zh_ HK) hk (.inl rfl));replace HB := am_ (hb);replace HI0 := am_ (hi);(try clear hb);(try clear hb2);(try clear hk);(try clear hi)) | ((with_reducible refine gate_dst (N := 7) rfl ?_);refine Kd.R_lit k182 _ 182 ?hg (N := 7) ?hd (xs := ([] : List (S182))) (inner := []) (ok := fun _ => True) (okp := fun _ => True) ?hr ?hp (fun _ hk => hk) trivial (Below.refl _ _) (Nat.le_refl _) (by simp) ?_;(case hd => rfl);(case hg => rfl);(case hr => first | (go_simp;done) | (go_simp;rfl));(case hp => exact (Reps.none _ _));intro v531 w6 ho7 hb hg_ hnew_;clear hg_ hnew_;(first | rw [← Ny530.out] at ho7 | (simp only [Int.reduceToNat] at ho7;rw [← Ny530.out] at ho7));have HO532 := am_ (Kd.R_lower ho7 (keep_size (w := w) (g := g) (row := none) (zh_ HK)));replace HI0 := am_ (IsS138.below (zi138 HI0) hb);replace BK526 := zb BK526 hb;replace HK := am_ (KeepBut.trans (zh_ HK) (KeepBut.of_below hb g none) (.inl rfl));replace HB := zs_ HB hb;clear hb ho7;obtain ⟨Ao8,co8,eo8⟩ := Kd.R_slice HO532.out;subst eo8;have hnb9 := NB526_0.out;have hnc9 := NB0_526.out;obtain ⟨hcz10_0,hcz10_1,hcz10_2,hcz10_3,hcz10_4,hcz10_5,hcz10_6,hfz10_0,hfz10_1,hfz10_2,hfz10_3,hfz10_4,hfz10_5,hfz10_6⟩ := zc7 BK526))
  refine bodyPost_ret (results_cell_row rfl _ _ gb526 144 #[.bool true,.int .i64 0,.int .i64 0,.int .i64 0,.int .i64 0,.string ⟨#[]⟩,.slice Ao8 y530.length co8] (0,0) _ rfl (zq BK526) Tryd.underlying144 rfl (by kernel_rfl)) rfl ?_
  exact ⟨_,zt_,by (with_reducible repeat (first | apply r1_ | apply r2_ | apply r3_));exact Kd.R_mono (zrf (Kd.R_types HO532.out BK526.out (by decide))) (fun _ hk => trivial),(zi138 HI0),zl_ HB,zh_ HK⟩
 ·replace c3 := Bool.eq_false_iff.mpr c3
  subst c3
  have H1 : ((spec_l00Src_request.f s0_0 t528 t529).bind fun bt533 => (spec_l00Src_batch.l0 k 0 s0_0 bt533.2.2.2.2.2.1 bt533.2.2.2.2.2.2 false bt533.1 bt533.2.1 bt533.2.2.1 bt533.2.2.2.1 bt533.2.2.2.2.1 (([] : List (S182))))) = some (r1,r2,r3,r4,r5,r6,r7,r8,r9) := by rw [if_neg (show ¬ (false = true) by decide)] at H;exact H
  clear H
  have H := H1
  clear H1
  replace H := Option.bind_eq_some_iff.mp H
  obtain ⟨⟨t533,t534,t535,t536,t537,t538,t539⟩,A110,H⟩ := H
  try dsimp only at H
  have A11 := am_ A110
  clear A110
  obtain ⟨y540,hy540⟩ : ∃ y_ : List (S182),y_ = (([] : List (S182))) := ⟨_,rfl⟩
  replace H : (spec_l00Src_batch.l0 k 0 s0_0 t538 t539 false t533 t534 t535 t536 t537 y540) = some (r1,r2,r3,r4,r5,r6,r7,r8,r9) := by first | (rw [hy540];with_reducible exact H) | (have H2_ := (Option.bind_some _ _).symm.trans H;rw [hy540];with_reducible exact H2_) | (have H2_ := (Option.bind_some _ _).symm.trans H;with_reducible exact H2_) | with_reducible exact H | (rw [hy540];exact H) | exact H
  have Ny540 := am_ hy540
  clear hy540
  have H' := am_ H
  clear H
  go_enter Tryd.func125,Tryd.ntmps125
  go_wp2_with (first | ((with_reducible refine gate_dst (N := 2) rfl ?_);refine zbx (N := 2) (cs := #[.bool false,.int .i64 0,.int .i64 0,.int .i64 0,.int .i64 0,.string ⟨#[]⟩,.slice none 0 0]) (t := 144) ?_;intro gb526 hg w12 hbox hb;replace HB := zs_ HB hb;have BK526 := am_ (hbox);have GW526 := am_ ((by rw [hg];exact (keep_size (w := w) (g := g) (row := none) (zh_ HK)) : w.heap.size ≤ gb526));have GE526 := am_ ((Nat.le_trans HW0.out (by rw [hg];exact (keep_size (w := w) (g := g) (row := none) (zh_ HK)) : w.heap.size ≤ gb526) : w0.heap.size ≤ gb526));replace HK := am_ (KeepBut.trans (zh_ HK) (KeepBut.of_below hb g none) (.inl rfl));have NB0_526 := am_ ((by rw [hg];exact Nat.ne_of_lt (IsS138.lt (show IsS138 w0 _ g s0_0 s0_1 s0_2 from (zi138 HI0))) : g ≠ gb526));have NB526_0 := am_ ((by rw [hg];exact Nat.ne_of_gt (IsS138.lt (show IsS138 w0 _ g s0_0 s0_1 s0_2 from (zi138 HI0))) : gb526 ≠ g));replace HI0 := am_ (IsS138.below (zi138 HI0) hb);clear hb hbox hg) | ((with_reducible refine gate_callee (f := 174) rfl ?_);refine zgl (some 6) Tryd.func174 #[.pointer (some ⟨g,0,none⟩),.int .i64 6] ?_;(with_reducible refine (spec_l00Src_chance.calls g s0_0 s0_1 s0_2 6 false t528 t529 w0 _ ?side1 ?side2 A2.out).mono ?_);(case side1 => exact zi138 HI0);(case side2 => exact zl_ HB);rintro e w13 ⟨rfl,hi,hb,hk⟩;refine ⟨_,rfl,?_⟩;replace BK526 := zkb hk BK526 NB526_0;replace HK := am_ (KeepBut.trans (zh_ HK) hk (.inl rfl));replace HB := am_ (hb);replace HI0 := am_ (hi);(try clear hb);(try clear hb2);(try clear hk);(try clear hi)) | ((with_reducible refine gate_callee (f := 175) rfl ?_);refine zgl (some 10) Tryd.func175 #[.pointer (some ⟨g,0,none⟩)] ?_;(with_reducible refine (spec_l00Src_request.calls g s0_0 t528 t529 t533 t534 t535 t536 t537 t538 t539 w0 _ ?side1 ?side2 A11.out).mono ?_);(case side1 => exact zi138 HI0);(case side2 => exact zl_ HB);rintro e w14 ⟨rfl,hi,hb,hk⟩;refine ⟨_,rfl,?_⟩;replace BK526 := zkb hk BK526 NB526_0;replace HK := am_ (KeepBut.trans (zh_ HK) hk (.inl rfl));replace HB := am_ (hb);replace HI0 := am_ (hi);(try clear hb);(try clear hb2);(try clear hk);(try clear hi)) | ((with_reducible refine gate_dst (N := 11) rfl ?_);refine Kd.R_lit k182 _ 182 ?hg (N := 11) ?hd (xs := ([] : List (S182))) (inner := []) (ok := fun _ => True) (okp := fun _ => True) ?hr ?hp (fun _ hk => hk) trivial (Below.refl _ _) (Nat.le_refl _) (by simp) ?_;(case hd => rfl);(case hg => rfl);(case hr => first | (go_simp;done) | (go_simp;rfl));(case hp => exact (Reps.none _ _));intro v541 w15 ho16 hb hg_ hnew_;clear hg_ hnew_;(first | rw [← Ny540.out] at ho16 | (simp only [Int.reduceToNat] at ho16;rw [← Ny540.out] at ho16));have HO542 := am_ (Kd.R_lower ho16 (keep_size (w := w) (g := g) (row := none) (zh_ HK)));replace HI0 := am_ (IsS138.below (zi138 HI0) hb);replace BK526 := zb BK526 hb;replace HK := am_ (KeepBut.trans (zh_ HK) (KeepBut.of_below hb g none) (.inl rfl));replace HB := zs_ HB hb;clear hb ho16;obtain ⟨Ao17,co17,eo17⟩ := Kd.R_slice HO542.out;subst eo17) | ((with_reducible refine gate_dst (N := 3) rfl ?_);refine zbx (N := 3) (cs := #[.bool false,.int .i64 0,.int .i64 0,.int .i64 0,.int .i64 0,.string ⟨#[]⟩,.slice none 0 0]) (t := 144) ?_;intro gb543 hg w18 hbox hb;replace HO542 := zrb HO542 hb;replace HB := zs_ HB hb;have BK543 := am_ (hbox);have GW543 := am_ ((by rw [hg];exact (keep_size (w := w) (g := g) (row := none) (zh_ HK)) : w.heap.size ≤ gb543));have GE543 := am_ ((Nat.le_trans HW0.out (by rw [hg];exact (keep_size (w := w) (g := g) (row := none) (zh_ HK)) : w.heap.size ≤ gb543) : w0.heap.size ≤ gb543));replace HK := am_ (KeepBut.trans (zh_ HK) (KeepBut.of_below hb g none) (.inl rfl));have NB526_543 := zl hg BK526;have NB543_526 := zg hg BK526;replace BK526 := zb BK526 hb;have NB0_543 := am_ ((by rw [hg];exact Nat.ne_of_lt (IsS138.lt (show IsS138 w0 _ g s0_0 t538 t539 from (zi138 HI0))) : g ≠ gb543));have NB543_0 := am_ ((by rw [hg];exact Nat.ne_of_gt (IsS138.lt (show IsS138 w0 _ g s0_0 t538 t539 from (zi138 HI0))) : gb543 ≠ g));replace HI0 := am_ (IsS138.below (zi138 HI0) hb);clear hb hbox hg;have hnb19 := NB543_526.out;have hnc19 := NB526_543.out;have hnb20 := NB543_0.out;have hnc20 := NB0_543.out;obtain ⟨hcz21_0,hcz21_1,hcz21_2,hcz21_3,hcz21_4,hcz21_5,hcz21_6,hfz21_0,hfz21_1,hfz21_2,hfz21_3,hfz21_4,hfz21_5,hfz21_6⟩ := zc7 BK543))
  go_loopg [4] k (fun kq v4 w' => ∃ (x4_1 : Int) (x1001_1 : Int) (x1002_1 : Int) (x544006_1 : List (S182)) (u544006 : Value),v4 = .int .i64 x4_1 ∧ Aside0 (spec_l00Src_batch.l0 kq x4_1 s0_0 x1001_1 x1002_1 false t533 t534 t535 t536 t537 x544006_1 = some (r1,r2,r3,r4,r5,r6,r7,r8,r9)) ∧ Aside0 (kq ≤ k) ∧ Aside0 (Kd.R k182 182 w' w.heap.size (fun _ => True) u544006 x544006_1) ∧ Aside0 (w'.heap[gb526]? = some (.cells #[.bool false,.int .i64 0,.int .i64 0,.int .i64 0,.int .i64 0,.string ⟨#[]⟩,(.slice none 0 0)] 144 (0,0))) ∧ Aside0 (w'.heap[gb543]? = some (.cells #[.bool false,.int .i64 t533,.int .i64 t534,.int .i64 t535,.int .i64 t536,.string t537,u544006] 144 (0,0))) ∧ Aside0 (IsS138 w0 w' g s0_0 x1001_1 x1002_1) ∧ Aside0 (KeepBut w w' g none) ∧ Aside0 (Below w0.heap.size w0 w'))
  case atStart => exact ⟨(0),(t538),(t539),(y540),(.slice Ao17 y540.length co17),(by first | rfl | (simp;done) | (simp [*];done)),H',⟨Nat.le_refl _⟩,⟨by (with_reducible repeat (first | apply r1_ | apply r2_ | apply r3_));exact Kd.R_mono (zrf (Kd.R_types HO542.out BK543.out (by decide))) (fun _ hk => trivial)⟩,⟨zq BK526⟩,⟨zq BK543⟩,⟨(zi138 HI0)⟩,⟨zh_ HK⟩,⟨zl_ HB⟩⟩
  case round =>
   clear H'
   try clear c1
   try clear c2
   try clear p2
   try clear c3
   try clear c9
   try clear c12
   try clear c17
   try clear c19
   try clear c20
   try clear hcz10_0
   try clear hcz10_1
   try clear hcz10_2
   try clear hcz10_3
   try clear hcz10_4
   try clear hcz10_5
   try clear hcz10_6
   try clear hcz21_0
   try clear hcz21_1
   try clear hcz21_2
   try clear hcz21_3
   try clear hcz21_4
   try clear hcz21_5
   try clear hcz21_6
   try clear hfz10_0
   try clear hfz10_1
   try clear hfz10_2
   try clear hfz10_3
   try clear hfz10_4
   try clear hfz10_5
   try clear hfz10_6
   try clear hfz21_0
   try clear hfz21_1
   try clear hfz21_2
   try clear hfz21_3
   try clear hfz21_4
   try clear hfz21_5
   try clear hfz21_6
   obtain ⟨x4_1,x1001_1,x1002_1,x544006_1,u544006,rfl,HA,HK1,HO_544006,BK526,BK543,HI0,HK,HB⟩ := hrel
   cases gk with
   | zero => exact absurd HA.out (by simp [spec_l00Src_batch.l0])
   | succ k1 =>
    have H := HA.out
    clear HA
    simp only [spec_l00Src_batch.l0] at H
    by_cases c22 : x4_1 < 4
    ·rw [if_pos c22] at H
     have c22b0 : decide (x4_1 < 4) = true := decide_eq_true c22
     clear c22
     replace H := Option.bind_eq_some_iff.mp H
     obtain ⟨⟨t544,t545,t546⟩,A230,H⟩ := H
     try dsimp only at H
     have A23 := am_ A230
     clear A230
     by_cases c24 : t544 = true
     ·subst c24
      have H1 : (spec_l00Src_batch.l0 k1 (wrap64 (x4_1 + 1)) s0_0 t545 t546 false t533 t534 t535 t536 t537 x544006_1) = some (r1,r2,r3,r4,r5,r6,r7,r8,r9) := by rw [if_pos rfl] at H;exact H
      clear H
      have H := H1
      clear H1
      have H' := am_ H
      clear H
      go_wp2_with (first | ((with_reducible refine gate_callee (f := 174) rfl ?_);refine zgl (some 18) Tryd.func174 #[.pointer (some ⟨g,0,none⟩),.int .i64 4] ?_;(with_reducible refine (spec_l00Src_chance.calls g s0_0 x1001_1 x1002_1 4 true t545 t546 w0 _ ?side1 ?side2 A23.out).mono ?_);(case side1 => exact zi138 HI0);(case side2 => exact zl_ HB);rintro e w25 ⟨rfl,hi,hb,hk⟩;refine ⟨_,rfl,?_⟩;replace HO_544006 := am_ (Kd.R_mono (Kd.R_keep (IsS138.apart (show IsS138 w0 _ g s0_0 x1001_1 x1002_1 from (zi138 HI0)) (zr HO_544006) (by decide)) hk (fun _ h => h.2)) (fun _ h => h.1));replace BK526 := zkb hk BK526 NB526_0;replace BK543 := zkb hk BK543 NB543_0;replace HK := am_ (KeepBut.trans (zh_ HK) hk (.inl rfl));replace HB := am_ (hb);replace HI0 := am_ (hi);(try clear hb);(try clear hb2);(try clear hk);(try clear hi)))
      go_roundg k1
      case measure => have := HK1.out;omega
      case rel => exact ⟨(wrap64 (x4_1 + 1)),(t545),(t546),(x544006_1),(u544006),(by first | rfl | (simp;done) | (simp [*];done)),H',⟨by have := HK1.out;omega⟩,⟨zr HO_544006⟩,⟨by (with_reducible repeat (first | apply k1_ | apply k2_ | apply k3_));exact BK526.out⟩,⟨by (with_reducible repeat (first | apply k1_ | apply k2_ | apply k3_));exact BK543.out⟩,⟨(zi138 HI0)⟩,⟨zh_ HK⟩,⟨zl_ HB⟩⟩
     ·replace c24 := Bool.eq_false_iff.mpr c24
      subst c24
      have H1 : ((spec_l00Src_next.f s0_0 t545 t546 100).bind fun bt547 => ((spec_l01Hash.f k1 (([(x4_1) % 256] : List Int))).bind fun t553 => (if 0 ≤ 8 then (if 8 ≤ (t553.size : Int) then (if x544006_1.length < 4398046511104 then (spec_l00Src_batch.l0 k1 (wrap64 (x4_1 + 1)) s0_0 bt547.2.1 bt547.2.2 false t533 t534 t535 t536 t537 (x544006_1 ++ [(⟨x4_1,bt547.1,t553.extract 0 8⟩ : S182)])) else (none)) else (none)) else (none)))) = some (r1,r2,r3,r4,r5,r6,r7,r8,r9) := by rw [if_neg (show ¬ (false = true) by decide)] at H;exact H
      clear H
      have H := H1
      clear H1
      replace H := Option.bind_eq_some_iff.mp H
      obtain ⟨⟨t547,t548,t549⟩,A260,H⟩ := H
      try dsimp only at H
      have A26 := am_ A260
      clear A260
      obtain ⟨y550,hy550⟩ : ∃ y_ : List Int,y_ = (([(x4_1) % 256] : List Int)) := ⟨_,rfl⟩
      replace H : ((spec_l01Hash.f k1 y550).bind fun t553 => (if 0 ≤ 8 then (if 8 ≤ (t553.size : Int) then (if x544006_1.length < 4398046511104 then (spec_l00Src_batch.l0 k1 (wrap64 (x4_1 + 1)) s0_0 t548 t549 false t533 t534 t535 t536 t537 (x544006_1 ++ [(⟨x4_1,t547,t553.extract 0 8⟩ : S182)])) else (none)) else (none)) else (none))) = some (r1,r2,r3,r4,r5,r6,r7,r8,r9) := by first | (rw [hy550];with_reducible exact H) | (have H2_ := (Option.bind_some _ _).symm.trans H;rw [hy550];with_reducible exact H2_) | (have H2_ := (Option.bind_some _ _).symm.trans H;with_reducible exact H2_) | with_reducible exact H | (rw [hy550];exact H) | exact H
      have Ny550 := am_ hy550
      clear hy550
      replace H := Option.bind_eq_some_iff.mp H
      obtain ⟨t553,A270,H⟩ := H
      try dsimp only at H
      have A27 := am_ A270
      clear A270
      by_cases c28 : 0 ≤ 8
      ·rw [if_pos c28] at H
       have c28b0 := eq_true c28
       have c28b1 : decide (0 ≤ 8) = true := decide_eq_true c28
       clear c28
       by_cases c29 : 8 ≤ (t553.size : Int)
       ·rw [if_pos c29] at H
        have c29b0 := eq_true c29
        have c29b1 : decide (8 ≤ (t553.size : Int)) = true := decide_eq_true c29
        clear c29
        by_cases c30 : x544006_1.length < 4398046511104
        ·rw [if_pos c30] at H
         have LMc30 := am_ c30
         clear c30
         obtain ⟨y554,hy554⟩ : ∃ y_ : List (S182),y_ = (x544006_1 ++ [(⟨x4_1,t547,t553.extract 0 8⟩ : S182)]) := ⟨_,rfl⟩
         replace H : (spec_l00Src_batch.l0 k1 (wrap64 (x4_1 + 1)) s0_0 t548 t549 false t533 t534 t535 t536 t537 y554) = some (r1,r2,r3,r4,r5,r6,r7,r8,r9) := by first | (rw [hy554];with_reducible exact H) | (have H2_ := (Option.bind_some _ _).symm.trans H;rw [hy554];with_reducible exact H2_) | (have H2_ := (Option.bind_some _ _).symm.trans H;with_reducible exact H2_) | with_reducible exact H | (rw [hy554];exact H) | exact H
         have Ny554 := am_ hy554
         clear hy554
         have H' := am_ H
         clear H
         try go_wp2_with (first | ((with_reducible refine gate_callee (f := 174) rfl ?_);refine zgl (some 18) Tryd.func174 #[.pointer (some ⟨g,0,none⟩),.int .i64 4] ?_;(with_reducible refine (spec_l00Src_chance.calls g s0_0 x1001_1 x1002_1 4 false t545 t546 w0 _ ?side1 ?side2 A23.out).mono ?_);(case side1 => exact zi138 HI0);(case side2 => exact zl_ HB);rintro e w31 ⟨rfl,hi,hb,hk⟩;refine ⟨_,rfl,?_⟩;replace HO_544006 := am_ (Kd.R_mono (Kd.R_keep (IsS138.apart (show IsS138 w0 _ g s0_0 x1001_1 x1002_1 from (zi138 HI0)) (zr HO_544006) (by decide)) hk (fun _ h => h.2)) (fun _ h => h.1));replace BK526 := zkb hk BK526 NB526_0;replace BK543 := zkb hk BK543 NB543_0;replace HK := am_ (KeepBut.trans (zh_ HK) hk (.inl rfl));replace HB := am_ (hb);replace HI0 := am_ (hi);(try clear hb);(try clear hb2);(try clear hk);(try clear hi);obtain ⟨Ao32,co32,eo32⟩ := Kd.R_slice HO_544006.out;subst eo32))
         replace HO_544006 := am_ (Kd.R_drew HO_544006.out)
         replace BK526 := am_ (blk_drew BK526.out)
         replace BK543 := am_ (blk_drew BK543.out)
         replace HI0 := am_ (IsS138.drew HI0.out)
         replace HK := am_ (keep_drew HK.out)
         replace HB := am_ (below_drew1 HB.out)
         refine start_ (n := 15) (S := fun w' => w'.cell? ⟨gb543,0,none⟩ = some (.bool false) ∧ w'.cell? ⟨gb543,1,none⟩ = some (.int .i64 t533) ∧ w'.cell? ⟨gb543,2,none⟩ = some (.int .i64 t534) ∧ w'.cell? ⟨gb543,3,none⟩ = some (.int .i64 t535) ∧ w'.cell? ⟨gb543,4,none⟩ = some (.int .i64 t536) ∧ w'.cell? ⟨gb543,5,none⟩ = some (.string t537) ∧ w'.cell? ⟨gb543,6,none⟩ = some (.slice Ao32 x544006_1.length co32)) (ds := [14]) #[false,false,false,false,false,false,false,false,false,false,false,false,false,false,false] (by kernel_rfl) rfl rfl ⟨(blk_cell BK543.out 0).trans rfl,(blk_cell BK543.out 1).trans rfl,(blk_cell BK543.out 2).trans rfl,(blk_cell BK543.out 3).trans rfl,(blk_cell BK543.out 4).trans rfl,(blk_cell BK543.out 5).trans rfl,(blk_cell BK543.out 6).trans rfl⟩ (fun hHeld => ?_);refine with_tabW spec_l00Src_batch.tab8 spec_l00Src_batch.bits8 (fun HT_ HW_ => ?_)
         generalize w31.drew = w33 at HO_544006 BK526 BK543 HI0 HK HB hHeld ⊢
         refine zpu 0 (N := some 20) HT_ ?_
         refine zpu 2 (N := some 22) HT_ ?_
         refine zpu 3 (N := some 23) HT_ ?_
         refine zpu 5 (N := some 25) HT_ ?_
         refine zpu 6 (N := some 26) HT_ ?_
         refine ztk 1 (N := some 21) HT_ HW_ hHeld ?_
         refine join_ (σ := Value) 7 #[true,true,true,true,true,true,true,true,false,false,false,false,false,false,false] (fun s_ => [(24,.int .i64 t547),(27,s_)]) (fun s_ w' => (w'.cell? ⟨gb543,0,none⟩ = some (.bool false) ∧ w'.cell? ⟨gb543,1,none⟩ = some (.int .i64 t533) ∧ w'.cell? ⟨gb543,2,none⟩ = some (.int .i64 t534) ∧ w'.cell? ⟨gb543,3,none⟩ = some (.int .i64 t535) ∧ w'.cell? ⟨gb543,4,none⟩ = some (.int .i64 t536) ∧ w'.cell? ⟨gb543,5,none⟩ = some (.string t537) ∧ w'.cell? ⟨gb543,6,none⟩ = some (.slice Ao32 x544006_1.length co32)) ∧ (Kd.R (Kd.int .u8) 5 w' w.heap.size (fun _ => True) s_ y550) ∧ (Kd.R k182 182 w' w.heap.size (fun _ => True) (.slice Ao32 x544006_1.length co32) x544006_1) ∧ (w'.heap[gb526]? = some (.cells #[.bool false,.int .i64 0,.int .i64 0,.int .i64 0,.int .i64 0,.string ⟨#[]⟩,.slice none 0 0] 144 (0,0))) ∧ (w'.heap[gb543]? = some (.cells #[.bool false,.int .i64 t533,.int .i64 t534,.int .i64 t535,.int .i64 t536,.string t537,.slice Ao32 x544006_1.length co32] 144 (0,0))) ∧ (IsS138 w0 w' g s0_0 t548 t549) ∧ (KeepBut w w' g none) ∧ (Below w0.heap.size w0 w')) ?_ ?_
         rotate_left
         ·intro hCont
          refine two_ (i := 4) (j := 7) (Ni := some 24) (Nj := some 27) #[true,true,true,true,true,true,true,false,false,false,false,false,false,false,false] #[true,true,true,true,false,true,true,true,false,false,false,false,false,false,false] rfl rfl rfl rfl (two_of HT_.out (by kernel_rfl)) (by decide) (by decide) (fun K hK => ?_) (fun K hK => ?_)
          ·skip
           refine zgo Tryd.func122 #[.pointer (some ⟨g,0,none⟩),.int .i64 100] ?_
           with_reducible refine (spec_l00Src_next.calls g s0_0 t545 t546 100 t547 t548 t549 w0 _ ?side1 ?side2 A26.out).mono ?_
           (case side1 => exact zi138 HI0)
           (case side2 => exact zl_ HB)
           rintro e w34 ⟨rfl,hi,hb,hk⟩
           refine ⟨_,rfl,?_⟩
           replace HO_544006 := am_ (Kd.R_mono (Kd.R_keep (IsS138.apart (show IsS138 w0 _ g s0_0 t545 t546 from (zi138 HI0)) (zr HO_544006) (by decide)) hk (fun _ h => h.2)) (fun _ h => h.1))
           replace BK526 := zkb hk BK526 NB526_0
           replace BK543 := zkb hk BK543 NB543_0
           replace HK := am_ (KeepBut.trans (zh_ HK) hk (.inl rfl))
           replace HB := am_ (hb)
           replace HI0 := am_ (hi)
           (try clear hb)
           (try clear hb2)
           (try clear hk)
           (try clear hi)
           refine hK.out _ _ ⟨(blk_cell BK543.out 0).trans rfl,(blk_cell BK543.out 1).trans rfl,(blk_cell BK543.out 2).trans rfl,(blk_cell BK543.out 3).trans rfl,(blk_cell BK543.out 4).trans rfl,(blk_cell BK543.out 5).trans rfl,(blk_cell BK543.out 6).trans rfl⟩ (fun hHeld => ?_)
           clear hK K
           refine norm_ (a' := ?_) ?_ ?_
           rotate_left
           ·show Act.put _ (some 24) _ = _
            simp only [Act.put,p1_,p2_,p3_,i64_w,i32_w]
            rfl
           refine zon 7 (N := some 27) HT_ (fun K hK => ?_)
           refine Kd.R_lit_step (Kd.int .u8) _ 5 ?hg (N := 27) ?hd (xs := ([(x4_1) % 256] : List Int)) (inner := [.int .u8 ((x4_1) % 256)]) (ok := fun _ => True) (okp := fun _ => True) ?hr ?hp (fun _ hk => hk) trivial (Below.refl _ _) (Nat.le_refl _) (by simp) ?_;(case hd => rfl);(case hg => rfl);(case hr => first | (go_simp;done) | (go_simp;rfl));(case hp => exact (Reps.one (show Kd.M (Kd.int .u8) _ _ _ ((x4_1) % 256) [.int .u8 ((x4_1) % 256)] from rfl) (Reps.none _ _)))
           intro v551 w35 ho36 hb hg_ hnew_
           clear hg_ hnew_
           (first | rw [← Ny550.out] at ho36 | (simp only [Int.reduceToNat] at ho36;rw [← Ny550.out] at ho36))
           replace HO_544006 := zrb HO_544006 hb
           have HO552 := am_ (Kd.R_lower ho36 (keep_size (w := w) (g := g) (row := none) (zh_ HK)))
           replace BK526 := zb BK526 hb
           replace BK543 := zb BK543 hb
           replace HI0 := am_ (IsS138.below (zi138 HI0) hb)
           replace HK := am_ (KeepBut.trans (zh_ HK) (KeepBut.of_below hb g none) (.inl rfl))
           replace HB := zs_ HB hb
           clear hb ho36
           refine hK.out _ _ ⟨(blk_cell BK543.out 0).trans rfl,(blk_cell BK543.out 1).trans rfl,(blk_cell BK543.out 2).trans rfl,(blk_cell BK543.out 3).trans rfl,(blk_cell BK543.out 4).trans rfl,(blk_cell BK543.out 5).trans rfl,(blk_cell BK543.out 6).trans rfl⟩ (fun hHeld => ?_)
           clear hK K
           refine norm_ (a' := ?_) ?_ ?_
           rotate_left
           ·show Act.put _ (some 27) _ = _
            simp only [Act.put,p1_,p2_,p3_,i64_w,i32_w]
            rfl
           exact norm_ (by simp only [putAll,Act.put,p1_,p2_,p3_]) (hCont (v551) _ ⟨hHeld,(zr HO552),(zr HO_544006),(zk BK526),(zk BK543),(zi138 HI0),(zh_ HK),(zl_ HB)⟩)
          ·skip
           refine Kd.R_lit_step (Kd.int .u8) _ 5 ?hg (N := 27) ?hd (xs := ([(x4_1) % 256] : List Int)) (inner := [.int .u8 ((x4_1) % 256)]) (ok := fun _ => True) (okp := fun _ => True) ?hr ?hp (fun _ hk => hk) trivial (Below.refl _ _) (Nat.le_refl _) (by simp) ?_;(case hd => rfl);(case hg => rfl);(case hr => first | (go_simp;done) | (go_simp;rfl));(case hp => exact (Reps.one (show Kd.M (Kd.int .u8) _ _ _ ((x4_1) % 256) [.int .u8 ((x4_1) % 256)] from rfl) (Reps.none _ _)))
           intro v551 w34 ho35 hb hg_ hnew_
           clear hg_ hnew_
           (first | rw [← Ny550.out] at ho35 | (simp only [Int.reduceToNat] at ho35;rw [← Ny550.out] at ho35))
           replace HO_544006 := zrb HO_544006 hb
           have HO552 := am_ (Kd.R_lower ho35 (keep_size (w := w) (g := g) (row := none) (zh_ HK)))
           replace BK526 := zb BK526 hb
           replace BK543 := zb BK543 hb
           replace HI0 := am_ (IsS138.below (zi138 HI0) hb)
           replace HK := am_ (KeepBut.trans (zh_ HK) (KeepBut.of_below hb g none) (.inl rfl))
           replace HB := zs_ HB hb
           clear hb ho35
           refine hK.out _ _ ⟨(blk_cell BK543.out 0).trans rfl,(blk_cell BK543.out 1).trans rfl,(blk_cell BK543.out 2).trans rfl,(blk_cell BK543.out 3).trans rfl,(blk_cell BK543.out 4).trans rfl,(blk_cell BK543.out 5).trans rfl,(blk_cell BK543.out 6).trans rfl⟩ (fun hHeld => ?_)
           clear hK K
           refine norm_ (a' := ?_) ?_ ?_
           rotate_left
           ·show Act.put _ (some 27) _ = _
            simp only [Act.put,p1_,p2_,p3_,i64_w,i32_w]
            rfl
           refine zon 4 (N := some 24) HT_ (fun K hK => ?_)
           refine zgo Tryd.func122 #[.pointer (some ⟨g,0,none⟩),.int .i64 100] ?_
           with_reducible refine (spec_l00Src_next.calls g s0_0 t545 t546 100 t547 t548 t549 w0 _ ?side1 ?side2 A26.out).mono ?_
           (case side1 => exact zi138 HI0)
           (case side2 => exact zl_ HB)
           rintro e w36 ⟨rfl,hi,hb,hk⟩
           refine ⟨_,rfl,?_⟩
           replace HO_544006 := am_ (Kd.R_mono (Kd.R_keep (IsS138.apart (show IsS138 w0 _ g s0_0 t545 t546 from (zi138 HI0)) (zr HO_544006) (by decide)) hk (fun _ h => h.2)) (fun _ h => h.1))
           replace BK526 := zkb hk BK526 NB526_0
           replace BK543 := zkb hk BK543 NB543_0
           replace HO552 := am_ (Kd.R_mono (Kd.R_keep (IsS138.apart (show IsS138 w0 _ g s0_0 t545 t546 from (zi138 HI0)) (zr HO552) (by decide)) hk (fun _ h => h.2)) (fun _ h => h.1))
           replace HK := am_ (KeepBut.trans (zh_ HK) hk (.inl rfl))
           replace HB := am_ (hb)
           replace HI0 := am_ (hi)
           (try clear hb)
           (try clear hb2)
           (try clear hk)
           (try clear hi)
           refine hK.out _ _ ⟨(blk_cell BK543.out 0).trans rfl,(blk_cell BK543.out 1).trans rfl,(blk_cell BK543.out 2).trans rfl,(blk_cell BK543.out 3).trans rfl,(blk_cell BK543.out 4).trans rfl,(blk_cell BK543.out 5).trans rfl,(blk_cell BK543.out 6).trans rfl⟩ (fun hHeld => ?_)
           clear hK K
           refine norm_ (a' := ?_) ?_ ?_
           rotate_left
           ·show Act.put _ (some 24) _ = _
            simp only [Act.put,p1_,p2_,p3_,i64_w,i32_w]
            rfl
           exact norm_ (by simp only [putAll,Act.put,p1_,p2_,p3_]) (hCont (v551) _ ⟨hHeld,(zr HO552),(zr HO_544006),(zk BK526),(zk BK543),(zi138 HI0),(zh_ HK),(zl_ HB)⟩)
         rintro v551 w37 ⟨hS_,h0_,h1_,h2_,h3_,h4_,h5_,h6_⟩
         have n0_ : Aside0 (Kd.R (Kd.int .u8) 5 w37 w.heap.size (fun _ => True) v551 y550) := ⟨h0_⟩
         have n1_ : Aside0 (Kd.R k182 182 w37 w.heap.size (fun _ => True) (.slice Ao32 x544006_1.length co32) x544006_1) := ⟨h1_⟩
         have n2_ : Aside0 (w37.heap[gb526]? = some (.cells #[.bool false,.int .i64 0,.int .i64 0,.int .i64 0,.int .i64 0,.string ⟨#[]⟩,.slice none 0 0] 144 (0,0))) := ⟨h2_⟩
         have n3_ : Aside0 (w37.heap[gb543]? = some (.cells #[.bool false,.int .i64 t533,.int .i64 t534,.int .i64 t535,.int .i64 t536,.string t537,.slice Ao32 x544006_1.length co32] 144 (0,0))) := ⟨h3_⟩
         have n4_ : Aside0 (IsS138 w0 w37 g s0_0 t548 t549) := ⟨h4_⟩
         have n5_ : Aside0 (KeepBut w w37 g none) := ⟨h5_⟩
         have n6_ : Aside0 (Below w0.heap.size w0 w37) := ⟨h6_⟩
         clear HO_544006
         clear BK526
         clear BK543
         clear HI0
         clear HK
         clear HB
         clear h0_ h1_ h2_ h3_ h4_ h5_ h6_
         have HO552 := n0_
         have HO_544006 := n1_
         have BK526 := n2_
         have BK543 := n3_
         have HI0 := n4_
         have HK := n5_
         have HB := n6_
         clear n0_ n1_ n2_ n3_ n4_ n5_ n6_
         have hHeld : w37.cell? ⟨gb543,0,none⟩ = some (.bool false) ∧ w37.cell? ⟨gb543,1,none⟩ = some (.int .i64 t533) ∧ w37.cell? ⟨gb543,2,none⟩ = some (.int .i64 t534) ∧ w37.cell? ⟨gb543,3,none⟩ = some (.int .i64 t535) ∧ w37.cell? ⟨gb543,4,none⟩ = some (.int .i64 t536) ∧ w37.cell? ⟨gb543,5,none⟩ = some (.string t537) ∧ w37.cell? ⟨gb543,6,none⟩ = some (.slice Ao32 x544006_1.length co32) := hS_
         obtain ⟨Ao38,co38,eo38⟩ := Kd.R_slice HO552.out
         (first | subst eo38 | (injection eo38 with f1_ f2_ f3_;have f4_ := f1_.symm;have f5_ := f3_.symm;clear f1_ f2_ f3_;subst f4_;subst f5_))
         refine norm_ (a' := ?_) ?_ ?_
         rotate_left
         ·simp only [putAll,Act.put,p1_,p2_,p3_]
          rfl
         refine zon 8 (N := some 28) HT_ (fun K hK => ?_)
         refine zgo Tryd.func123 #[.slice Ao38 y550.length co38] ?_
         with_reducible refine (spec_l01Hash.calls k1 _ _ y550 t553 _ ?side1 ?side2 A27.out).mono ?_
         (case side1 => repeat (first | exact (Kd.R_reads' HO552.out).2.2 | (with_reducible refine Kd.C_alloc ?_ _) | (with_reducible refine Kd.C_drewN ?_ _) | (with_reducible refine Kd.C_drew ?_)))
         (case side2 => exact (Kd.R_reads' HO552.out).2.1)
         rintro e w39 ⟨rfl,hb⟩
         refine ⟨_,rfl,?_⟩
         replace HO_544006 := zrb HO_544006 hb
         replace BK526 := zb BK526 hb
         replace BK543 := zb BK543 hb
         replace HI0 := am_ (IsS138.below (zi138 HI0) hb)
         replace HK := am_ (KeepBut.trans (zh_ HK) (KeepBut.of_below hb g none) (.inl rfl))
         replace HB := zs_ HB hb
         (try clear hb)
         (try clear hb2)
         (try clear hk)
         (try clear hi)
         refine hK.out _ _ ⟨(blk_cell BK543.out 0).trans rfl,(blk_cell BK543.out 1).trans rfl,(blk_cell BK543.out 2).trans rfl,(blk_cell BK543.out 3).trans rfl,(blk_cell BK543.out 4).trans rfl,(blk_cell BK543.out 5).trans rfl,(blk_cell BK543.out 6).trans rfl⟩ (fun hHeld => ?_)
         clear hK K
         refine norm_ (a' := ?_) ?_ ?_
         rotate_left
         ·show Act.put _ (some 28) _ = _
          simp only [Act.put,p1_,p2_,p3_,i64_w,i32_w]
          rfl
         refine zpu 9 (N := some 29) HT_ ?_
         refine zpu 10 (N := some 30) HT_ ?_
         refine zon 11 (N := some 31) HT_ (fun K hK => ?_)
         refine value_ (w1 := ?_) (v := ?_) (by rfl) rfl ?_ ?_
         rotate_left 2
         ·go_simp
          constructor
          ·rfl
          ·rfl
         refine hK.out _ _ ⟨(blk_cell (blk_alloc BK543.out _) 0).trans rfl,(blk_cell (blk_alloc BK543.out _) 1).trans rfl,(blk_cell (blk_alloc BK543.out _) 2).trans rfl,(blk_cell (blk_alloc BK543.out _) 3).trans rfl,(blk_cell (blk_alloc BK543.out _) 4).trans rfl,(blk_cell (blk_alloc BK543.out _) 5).trans rfl,(blk_cell (blk_alloc BK543.out _) 6).trans rfl⟩ (fun hHeld => ?_)
         clear hK K
         refine norm_ (a' := ?_) ?_ ?_
         rotate_left
         ·show Act.put _ (some 31) _ = _
          simp only [Act.put,p1_,p2_,p3_,i64_w,i32_w]
          rfl
         refine zon 12 (N := some 32) HT_ (fun K hK => ?_)
         refine Kd.R_append_step k182 w.heap.size (by rfl) (.tmp 21) (.tmp 31) 142 182 (.agg #[(.int .i64 0),(.int .i64 0),(.string ⟨#[]⟩)]) 32 rfl Tryd.underlying142 info182 rfl (by decide) (by omega) (.slice Ao32 x544006_1.length co32) x544006_1 (⟨x4_1,t547,t553.extract 0 8⟩ : S182) [.int .i64 x4_1,.int .i64 t547,.string (t553.extract 0 8)] (fun _ => True) (fun _ => False) rfl rfl ?aP (fun _ hk => hk.elim) ?aF ?aO (Below.refl _ _) ?aS ?aL ?_
         (case aP => exact k182_mkM _ _ _ (⟨x4_1,t547,t553.extract 0 8⟩ : S182))
         (case aF => exact (fun _ _ => trivial))
         (case aO => exact (zr HO_544006))
         (case aS => exact (keep_size (w := w) (g := g) (row := none) (zh_ HK)))
         (case aL => have := LMc30.out;omega)
         intro v555 w40 ho hb hg hat
         rw [← Ny554.out] at ho
         replace BK526 := am_ (blk_grown (g := gb526) (o := .cells #[.bool false,.int .i64 0,.int .i64 0,.int .i64 0,.int .i64 0,.string ⟨#[]⟩,.slice none 0 0] 144 (0,0)) (zk BK526) hg (Kd.R_ne HO_544006.out BK526.out (by decide)))
         replace BK543 := am_ (blk_grown (g := gb543) (o := .cells #[.bool false,.int .i64 t533,.int .i64 t534,.int .i64 t535,.int .i64 t536,.string t537,.slice Ao32 x544006_1.length co32] 144 (0,0)) (zk BK543) hg (Kd.R_ne HO_544006.out BK543.out (by decide)))
         replace HI0 := am_ (IsS138.grown (zi138 HI0) hg (IsS138.own_ne HI0.out HO_544006.out (by decide)))
         replace HB := am_ (below_weaken (zl_ HB) HL.out hb)
         replace HK := am_ (KeepBut.trans (zh_ HK) (KeepBut.of_grown hg g) (Kd.R_base2 HO_544006.out))
         have HO556 := am_ (ho)
         clear HO_544006
         clear ho hb hg hat
         obtain ⟨Ao41,co41,eo41⟩ := Kd.R_slice HO556.out
         (first | subst eo41 | (injection eo41 with f1_ f2_ f3_;have f4_ := f1_.symm;have f5_ := f3_.symm;clear f1_ f2_ f3_;subst f4_;subst f5_))
         refine hK.out _ _ ⟨(blk_cell BK543.out 0).trans rfl,(blk_cell BK543.out 1).trans rfl,(blk_cell BK543.out 2).trans rfl,(blk_cell BK543.out 3).trans rfl,(blk_cell BK543.out 4).trans rfl,(blk_cell BK543.out 5).trans rfl,(blk_cell BK543.out 6).trans rfl⟩ (fun hHeld => ?_)
         clear hK K
         refine norm_ (a' := ?_) ?_ ?_
         rotate_left
         ·show Act.put _ (some 32) _ = _
          simp only [Act.put,p1_,p2_,p3_,i64_w,i32_w]
          rfl
         refine zpu 13 (N := some 33) HT_ ?_
         refine last_ (i := 14) (N := none) #[true,true,true,true,true,true,true,true,true,true,true,true,true,true,true] rfl rfl (one_of HT_.out (by kernel_rfl)) (by decide) (fun K hK => ?_)
         have hs42 : w40.cell? ⟨gb543,6,none⟩ = some (.slice Ao32 x544006_1.length co32) := (blk_cell BK543.out 6).trans rfl
         have hfs42 := blk_frozen BK543.out 6
         have hns42_0 := NB526_543.out
         have hms42_0 := NB543_526.out
         refine skip_ (w1 := ?_) (by rfl) rfl ?_ ?_
         rotate_left
         ·go_simp
          rfl
         refine hK.out _ _ ?_
         clear hK K
         refine done_ (done_of HT_.out (by kernel_rfl)) ?_
         try go_wp2
         go_roundg k1
         case measure => have := HK1.out;omega
         case rel => exact ⟨(wrap64 (x4_1 + 1)),(t548),(t549),(y554),(.slice Ao41 y554.length co41),(by first | rfl | (simp;done) | (simp [*];done)),H',⟨by have := HK1.out;omega⟩,⟨by (with_reducible repeat (first | apply r1_ | apply r2_ | apply r3_));exact Kd.R_mono (zrf (Kd.R_types HO556.out BK543.out (by decide))) (fun _ hk => trivial)⟩,⟨zq BK526⟩,⟨zq BK543⟩,⟨(zi138 HI0)⟩,⟨zh_ HK⟩,⟨zl_ HB⟩⟩
        ·rw [if_neg c30] at H
         exact absurd H (by simp)
       ·rw [if_neg c29] at H
        exact absurd H (by simp)
      ·rw [if_neg c28] at H
       exact absurd H (by simp)
    ·rw [if_neg c22] at H
     have c22b0 : decide (x4_1 < 4) = false := decide_eq_false c22
     clear c22
     simp only [Option.some.injEq,Prod.mk.injEq] at H
     obtain ⟨rfl,rfl,rfl,rfl,rfl,rfl,rfl,rfl,rfl⟩ := H
     have hnb43 := NB543_526.out
     have hnc43 := NB526_543.out
     have hnb44 := NB543_0.out
     have hnc44 := NB0_543.out
     obtain ⟨hcz45_0,hcz45_1,hcz45_2,hcz45_3,hcz45_4,hcz45_5,hcz45_6,hfz45_0,hfz45_1,hfz45_2,hfz45_3,hfz45_4,hfz45_5,hfz45_6⟩ := zc7 BK543
     have hnb46 := NB526_0.out
     have hnc46 := NB0_526.out
     obtain ⟨hcz47_0,hcz47_1,hcz47_2,hcz47_3,hcz47_4,hcz47_5,hcz47_6,hfz47_0,hfz47_1,hfz47_2,hfz47_3,hfz47_4,hfz47_5,hfz47_6⟩ := zc7 BK526
     obtain ⟨Ao48,co48,eo48⟩ := Kd.R_slice HO_544006.out
     subst eo48
     go_wp2
     refine bodyPost_ret (results_cell_row rfl _ _ gb526 144 #[.bool false,.int .i64 t533,.int .i64 t534,.int .i64 t535,.int .i64 t536,.string t537,.slice Ao48 x544006_1.length co48] (0,0) _ rfl (zq BK526) Tryd.underlying144 rfl (by kernel_rfl)) rfl ?_
     exact ⟨_,zt_,by (with_reducible repeat (first | apply r1_ | apply r2_ | apply r3_));exact Kd.R_mono (zrf (Kd.R_types HO_544006.out BK526.out (by decide))) (fun _ hk => trivial),(zi138 HI0),zl_ HB,zh_ HK⟩
set_option maxHeartbeats 8000000 in
set_option maxRecDepth 100000 in
theorem spec_l02Number.calls (k : Nat) (a0 : Int) (a1 : Int) (r : List Int) (w : World) (h : spec_l02Number.f k a0 a1 = some r) :
  Calls Tryd.prog 172 #[.int .i64 a0,.int .i64 a1] w fun e w' => ∃ v0_ : Value,e = .returned (v0_) ∧ Kd.R (Kd.int .u8) 5 w' w.heap.size (fun _ => True) v0_ r ∧ Below w.heap.size w w' := by
 have HB := am_ (Below.refl w.heap.size w)
 have H : (spec_l02Number.l0 k a0 (([] : List Int)) (wrap64 (a1 - 1))) = some r := h
 clear h
 obtain ⟨y437,hy437⟩ : ∃ y_ : List Int,y_ = (([] : List Int)) := ⟨_,rfl⟩
 replace H : (spec_l02Number.l0 k a0 y437 (wrap64 (a1 - 1))) = some r := by first | (rw [hy437];with_reducible exact H) | (have H2_ := (Option.bind_some _ _).symm.trans H;rw [hy437];with_reducible exact H2_) | (have H2_ := (Option.bind_some _ _).symm.trans H;with_reducible exact H2_) | with_reducible exact H | (rw [hy437];exact H) | exact H
 have Ny437 := am_ hy437
 clear hy437
 have H' := am_ H
 clear H
 go_enter Tryd.func172,Tryd.ntmps172
 go_wp2_with (first | ((with_reducible refine gate_dst (N := 7) rfl ?_);refine Kd.R_lit (Kd.int .u8) _ 5 ?hg (N := 7) ?hd (xs := ([] : List Int)) (inner := []) (ok := fun _ => True) (okp := fun _ => True) ?hr ?hp (fun _ hk => hk) trivial (Below.refl _ _) (Nat.le_refl _) (by simp) ?_;(case hd => rfl);(case hg => rfl);(case hr => first | (go_simp;done) | (go_simp;rfl));(case hp => exact (Reps.none _ _));intro v438 w3 ho4 hb hg_ hnew_;clear hg_ hnew_;(first | rw [← Ny437.out] at ho4 | (simp only [Int.reduceToNat] at ho4;rw [← Ny437.out] at ho4));have HO439 := am_ (Kd.R_lower ho4 (below_size (zl_ HB)));replace HB := zs_ HB hb;clear hb ho4))
 go_loopg [5,6] k (fun kq v5 v6 w' => ∃ (x5_1 : List Int) (x6_1 : Int),v6 = .int .i64 x6_1 ∧ Aside0 (spec_l02Number.l0 kq a0 x5_1 x6_1 = some r) ∧ Aside0 (kq ≤ k) ∧ Aside0 (Kd.R (Kd.int .u8) 5 w' w.heap.size (fun _ => True) v5 x5_1) ∧ Aside0 (Below w.heap.size w w'))
 case atStart => exact ⟨(y437),(wrap64 (a1 - 1)),(by first | rfl | (simp;done) | (simp [*];done)),H',⟨Nat.le_refl _⟩,⟨zr HO439⟩,⟨zl_ HB⟩⟩
 case round =>
  clear H'
  try clear c1
  try clear p2
  obtain ⟨x5_1,x6_1,rfl,HA,HK1,HO_5,HB⟩ := hrel
  cases gk with
  | zero => exact absurd HA.out (by simp [spec_l02Number.l0])
  | succ k1 =>
   have H := HA.out
   clear HA
   simp only [spec_l02Number.l0] at H
   by_cases c5 : x6_1 ≥ 0
   ·rw [if_pos c5] at H
    have c5b0 : decide (0 ≤ x6_1) = true := decide_eq_true c5
    clear c5
    obtain ⟨ji6,hji6⟩ : ∃ j_ : Int,(IntKind.u64.wrap (wrap64 (8 * x6_1))) = j_ := ⟨_,rfl⟩
    replace H : (if 0 ≤ (ji6) then (if x5_1.length < 140737488355328 then (spec_l02Number.l0 k1 a0 (x5_1 ++ [(shr .i64 a0 (ji6)) % 256]) (wrap64 (x6_1 - 1))) else (none)) else (none)) = some r := by first | (rw [hji6] at H;exact H) | (simp only [hji6] at H ⊢;exact H)
    by_cases c7 : 0 ≤ (ji6)
    ·rw [if_pos c7] at H
     have c7b0 := eq_true c7
     have c7b1 : decide (0 ≤ (ji6)) = true := decide_eq_true c7
     clear c7
     obtain ⟨ji8,hji8⟩ : ∃ j_ : Int,(shr .i64 a0 (ji6)) = j_ := ⟨_,rfl⟩
     replace H : (if x5_1.length < 140737488355328 then (spec_l02Number.l0 k1 a0 (x5_1 ++ [(ji8) % 256]) (wrap64 (x6_1 - 1))) else (none)) = some r := by first | (rw [hji8] at H;exact H) | (simp only [hji8] at H ⊢;exact H)
     have hji8_ : (a0 / 2 ^ min (ji6).toNat 64) = ji8 := hji8
     have hji8z : (ji6) ≤ 64 → (a0 / 2 ^ (ji6).toNat) = ji8 := shr_small hji8
     by_cases c9 : x5_1.length < 140737488355328
     ·rw [if_pos c9] at H
      have LMc9 := am_ c9
      clear c9
      obtain ⟨y440,hy440⟩ : ∃ y_ : List Int,y_ = (x5_1 ++ [(ji8) % 256]) := ⟨_,rfl⟩
      replace H : (spec_l02Number.l0 k1 a0 y440 (wrap64 (x6_1 - 1))) = some r := by first | (rw [hy440];with_reducible exact H) | (have H2_ := (Option.bind_some _ _).symm.trans H;rw [hy440];with_reducible exact H2_) | (have H2_ := (Option.bind_some _ _).symm.trans H;with_reducible exact H2_) | with_reducible exact H | (rw [hy440];exact H) | exact H
      have Ny440 := am_ hy440
      clear hy440
      have H' := am_ H
      clear H
      go_wp2_with (first | ((with_reducible refine gate_builtin (b := .append) (xs := #[.tmp 14,.tmp 21]) rfl ?_);at_builtin;refine Kd.R_append (Kd.int .u8) (w0 := w) w.heap.size rfl (.tmp 14) (.tmp 21) 31 5 (.int .u8 0) 1 rfl Tryd.underlying31 info5 rfl (by decide) (by omega) u5 x5_1 ((ji8) % 256) [.int .u8 ((ji8) % 256)] (fun _ => True) (fun _ => False) rfl rfl ?aP (fun _ hk => hk.elim) ?aF ?aO ?aB ?aS ?aL ?_;(case aP => exact rfl);(case aB => exact (zl_ HB));(case aF => exact (fun _ _ => trivial));(case aO => exact (zr HO_5));(case aS => exact (below_size (zl_ HB)));(case aL => have := LMc9.out;omega);intro v441 w10 ho hb hg hat;rw [← Ny440.out] at ho;replace HB := am_ (hb);have HO442 := am_ (ho);clear HO_5;clear ho hb hg hat))
      go_roundg k1
      case measure => have := HK1.out;omega
      case rel => exact ⟨(y440),(wrap64 (x6_1 - 1)),(by first | rfl | (simp;done) | (simp [*];done)),H',⟨by have := HK1.out;omega⟩,⟨zr HO442⟩,⟨zl_ HB⟩⟩
     ·rw [if_neg c9] at H
      exact absurd H (by simp)
    ·rw [if_neg c7] at H
     exact absurd H (by simp)
   ·rw [if_neg c5] at H
    have c5b0 : decide (0 ≤ x6_1) = false := decide_eq_false c5
    clear c5
    obtain rfl := Option.some.inj H
    go_wp2
    go_ret
    exact ⟨_,zt_,zr HO_5,zl_ HB⟩
def spec_l02Request.T1 : Bool × List (List Nat × List Nat) := (true,[([],[]),([0],[0]),([1],[1]),([2],[2]),([],[]),([4],[4]),([5],[5]),([3,6,6],[3,6]),([7,7,0,1,2,3,4,5,6,7],[7])])
def spec_l02Request.B1 : List Nat := [0,1,3,7,0,16,48,127,255]
theorem spec_l02Request.tab1 : rtab .any (opsOf Tryd.f173 1) = spec_l02Request.T1 := by kernel_rfl
theorem spec_l02Request.bits1 : waitsOk spec_l02Request.T1.2 spec_l02Request.B1 = true := by kernel_rfl
def spec_l02Request.T2 : Bool × List (List Nat × List Nat) := (true,[([],[]),([],[]),([1],[1]),([2],[2]),([3],[3]),([0,4],[0,4]),([],[]),([6],[6]),([7,5],[7]),([5,8,8],[5,8]),([9,9,0,1,2,3,4,5,6,7,8,9],[0,9])])
def spec_l02Request.B2 : List Nat := [0,0,2,6,14,31,0,64,255,511,1023]
theorem spec_l02Request.tab2 : rtab .any (opsOf Tryd.f173 2) = spec_l02Request.T2 := by kernel_rfl
theorem spec_l02Request.bits2 : waitsOk spec_l02Request.T2.2 spec_l02Request.B2 = true := by kernel_rfl
def spec_l02Request.T3 : Bool × List (List Nat × List Nat) := (true,[([],[]),([],[]),([1],[1]),([2],[2]),([3],[3]),([4],[4]),([0,5],[0,5]),([],[]),([7],[7]),([6,8,6],[6,8]),([9,9,0,1,2,3,4,5,6,7,8,9],[9])])
def spec_l02Request.B3 : List Nat := [0,0,2,6,14,30,63,0,128,511,1023]
theorem spec_l02Request.tab3 : rtab .any (opsOf Tryd.f173 3) = spec_l02Request.T3 := by kernel_rfl
theorem spec_l02Request.bits3 : waitsOk spec_l02Request.T3.2 spec_l02Request.B3 = true := by kernel_rfl
set_option maxHeartbeats 8000000 in
set_option maxRecDepth 100000 in
theorem spec_l02Request.calls (k : Nat) (a0_0 : Int) (a0_1 : Int) (a0_2 : Int) (a0_3 : Int) (a0_4 : ByteArray) (r : List Int) (w : World) (h : spec_l02Request.f k a0_0 a0_1 a0_2 a0_3 a0_4 = some r) :
  Calls Tryd.prog 173 #[.agg #[.int .i64 a0_0,.int .i64 a0_1,.int .i64 a0_2,.int .i64 a0_3,.string a0_4]] w fun e w' => ∃ v0_ : Value,e = .returned (v0_) ∧ Kd.R (Kd.int .u8) 5 w' w.heap.size (fun _ => True) v0_ r ∧ Below w.heap.size w w' := by
 have hu141 := Tryd.underlying141
 have HB := am_ (Below.refl w.heap.size w)
 have H : ((some (([(a0_0) % 256] : List Int) : List Int)).bind fun y444 => ((spec_l02Number.f k a0_1 2).bind fun t447 => (if y444.length + t447.length < 140737488355328 then ((some (y444 ++ t447 : List Int)).bind fun y450 => (if y450.length < 140737488355328 then ((some (y450 ++ [(a0_2) % 256] : List Int)).bind fun y453 => ((spec_l02Number.f k a0_3 2).bind fun t456 => (if y453.length + t456.length < 140737488355328 then ((some (y453 ++ t456 : List Int)).bind fun y459 => (if y459.length < 140737488355328 then ((some (y459 ++ [((a0_4.size : Int)) % 256] : List Int)).bind fun y462 => (if y462.length + a0_4.size < 140737488355328 then (some (y462 ++ bytesOf a0_4)) else (none))) else (none))) else (none)))) else (none))) else (none)))) = some r := h
 clear h
 obtain ⟨y444,hy444⟩ : ∃ y_ : List Int,y_ = (([(a0_0) % 256] : List Int)) := ⟨_,rfl⟩
 replace H : ((spec_l02Number.f k a0_1 2).bind fun t447 => (if y444.length + t447.length < 140737488355328 then ((some (y444 ++ t447 : List Int)).bind fun y450 => (if y450.length < 140737488355328 then ((some (y450 ++ [(a0_2) % 256] : List Int)).bind fun y453 => ((spec_l02Number.f k a0_3 2).bind fun t456 => (if y453.length + t456.length < 140737488355328 then ((some (y453 ++ t456 : List Int)).bind fun y459 => (if y459.length < 140737488355328 then ((some (y459 ++ [((a0_4.size : Int)) % 256] : List Int)).bind fun y462 => (if y462.length + a0_4.size < 140737488355328 then (some (y462 ++ bytesOf a0_4)) else (none))) else (none))) else (none)))) else (none))) else (none))) = some r := by first | (rw [hy444];with_reducible exact H) | (have H2_ := (Option.bind_some _ _).symm.trans H;rw [hy444];with_reducible exact H2_) | (have H2_ := (Option.bind_some _ _).symm.trans H;with_reducible exact H2_) | with_reducible exact H | (rw [hy444];exact H) | exact H
 have Ny444 := am_ hy444
 clear hy444
 replace H := Option.bind_eq_some_iff.mp H
 obtain ⟨t447,A20,H⟩ := H
 try dsimp only at H
 have A2 := am_ A20
 clear A20
 by_cases c3 : y444.length + t447.length < 140737488355328
 ·rw [if_pos c3] at H
  have LMc3 := am_ c3
  clear c3
  obtain ⟨y450,hy450⟩ : ∃ y_ : List Int,y_ = (y444 ++ t447) := ⟨_,rfl⟩
  replace H : (if y450.length < 140737488355328 then ((some (y450 ++ [(a0_2) % 256] : List Int)).bind fun y453 => ((spec_l02Number.f k a0_3 2).bind fun t456 => (if y453.length + t456.length < 140737488355328 then ((some (y453 ++ t456 : List Int)).bind fun y459 => (if y459.length < 140737488355328 then ((some (y459 ++ [((a0_4.size : Int)) % 256] : List Int)).bind fun y462 => (if y462.length + a0_4.size < 140737488355328 then (some (y462 ++ bytesOf a0_4)) else (none))) else (none))) else (none)))) else (none)) = some r := by first | (rw [hy450];with_reducible exact H) | (have H2_ := (Option.bind_some _ _).symm.trans H;rw [hy450];with_reducible exact H2_) | (have H2_ := (Option.bind_some _ _).symm.trans H;with_reducible exact H2_) | with_reducible exact H | (rw [hy450];exact H) | exact H
  have Ny450 := am_ hy450
  clear hy450
  by_cases c4 : y450.length < 140737488355328
  ·rw [if_pos c4] at H
   have LMc4 := am_ c4
   clear c4
   obtain ⟨y453,hy453⟩ : ∃ y_ : List Int,y_ = (y450 ++ [(a0_2) % 256]) := ⟨_,rfl⟩
   replace H : ((spec_l02Number.f k a0_3 2).bind fun t456 => (if y453.length + t456.length < 140737488355328 then ((some (y453 ++ t456 : List Int)).bind fun y459 => (if y459.length < 140737488355328 then ((some (y459 ++ [((a0_4.size : Int)) % 256] : List Int)).bind fun y462 => (if y462.length + a0_4.size < 140737488355328 then (some (y462 ++ bytesOf a0_4)) else (none))) else (none))) else (none))) = some r := by first | (rw [hy453];with_reducible exact H) | (have H2_ := (Option.bind_some _ _).symm.trans H;rw [hy453];with_reducible exact H2_) | (have H2_ := (Option.bind_some _ _).symm.trans H;with_reducible exact H2_) | with_reducible exact H | (rw [hy453];exact H) | exact H
   have Ny453 := am_ hy453
   clear hy453
   replace H := Option.bind_eq_some_iff.mp H
   obtain ⟨t456,A50,H⟩ := H
   try dsimp only at H
   have A5 := am_ A50
   clear A50
   by_cases c6 : y453.length + t456.length < 140737488355328
   ·rw [if_pos c6] at H
    have LMc6 := am_ c6
    clear c6
    obtain ⟨y459,hy459⟩ : ∃ y_ : List Int,y_ = (y453 ++ t456) := ⟨_,rfl⟩
    replace H : (if y459.length < 140737488355328 then ((some (y459 ++ [((a0_4.size : Int)) % 256] : List Int)).bind fun y462 => (if y462.length + a0_4.size < 140737488355328 then (some (y462 ++ bytesOf a0_4)) else (none))) else (none)) = some r := by first | (rw [hy459];with_reducible exact H) | (have H2_ := (Option.bind_some _ _).symm.trans H;rw [hy459];with_reducible exact H2_) | (have H2_ := (Option.bind_some _ _).symm.trans H;with_reducible exact H2_) | with_reducible exact H | (rw [hy459];exact H) | exact H
    have Ny459 := am_ hy459
    clear hy459
    by_cases c7 : y459.length < 140737488355328
    ·rw [if_pos c7] at H
     have LMc7 := am_ c7
     clear c7
     obtain ⟨y462,hy462⟩ : ∃ y_ : List Int,y_ = (y459 ++ [((a0_4.size : Int)) % 256]) := ⟨_,rfl⟩
     replace H : (if y462.length + a0_4.size < 140737488355328 then (some (y462 ++ bytesOf a0_4)) else (none)) = some r := by first | (rw [hy462];with_reducible exact H) | (have H2_ := (Option.bind_some _ _).symm.trans H;rw [hy462];with_reducible exact H2_) | (have H2_ := (Option.bind_some _ _).symm.trans H;with_reducible exact H2_) | with_reducible exact H | (rw [hy462];exact H) | exact H
     have Ny462 := am_ hy462
     clear hy462
     by_cases c8 : y462.length + a0_4.size < 140737488355328
     ·rw [if_pos c8] at H
      have LMc8 := am_ c8
      clear c8
      obtain ⟨y465,hy465⟩ : ∃ y_ : List Int,y_ = (y462 ++ bytesOf a0_4) := ⟨_,rfl⟩
      replace H : (some y465) = some r := by first | (rw [hy465];with_reducible exact H) | (have H2_ := (Option.bind_some _ _).symm.trans H;rw [hy465];with_reducible exact H2_) | (have H2_ := (Option.bind_some _ _).symm.trans H;with_reducible exact H2_) | with_reducible exact H | (rw [hy465];exact H) | exact H
      have Ny465 := am_ hy465
      clear hy465
      obtain rfl := Option.some.inj H
      go_enter Tryd.func173,Tryd.ntmps173
      try go_wp2_with (first | ((with_reducible refine gate_dst (N := 1) rfl ?_);refine zbx (N := 1) (cs := #[.int .i64 a0_0,.int .i64 a0_1,.int .i64 a0_2,.int .i64 a0_3,.string a0_4]) (t := 141) ?_;intro gb443 hg w9 hbox hb;have BK443 := am_ (hbox);have GW443 := zw_ HB hg;have GE443 := zw_ HB hg;replace HB := zs_ HB hb;clear hb hbox hg))
      replace BK443 := am_ (blk_drew BK443.out)
      replace HB := am_ (below_drew1 HB.out)
      refine start_ (n := 9) (S := fun w' => w'.cell? ⟨gb443,0,none⟩ = some (.int .i64 a0_0) ∧ w'.cell? ⟨gb443,1,none⟩ = some (.int .i64 a0_1) ∧ w'.cell? ⟨gb443,2,none⟩ = some (.int .i64 a0_2) ∧ w'.cell? ⟨gb443,3,none⟩ = some (.int .i64 a0_3) ∧ w'.cell? ⟨gb443,4,none⟩ = some (.string a0_4)) (ds := []) #[false,false,false,false,false,false,false,false,false] (by kernel_rfl) rfl rfl ⟨(blk_cell BK443.out 0).trans rfl,(blk_cell BK443.out 1).trans rfl,(blk_cell BK443.out 2).trans rfl,(blk_cell BK443.out 3).trans rfl,(blk_cell BK443.out 4).trans rfl⟩ (fun hHeld => ?_);refine with_tabW spec_l02Request.tab1 spec_l02Request.bits1 (fun HT_ HW_ => ?_)
      generalize w9.drew = w10 at BK443 HB hHeld ⊢
      refine zpu 0 (N := some 4) HT_ ?_
      refine zpu 4 (N := some 8) HT_ ?_
      refine ztk 1 (N := some 5) HT_ HW_ hHeld ?_
      refine zpu 2 (N := some 6) HT_ ?_
      refine ztk 5 (N := some 9) HT_ HW_ hHeld ?_
      refine join_ (σ := Value × Value) 2 #[true,true,true,true,true,true,true,false,false] (fun s_ => [(7,s_.1),(10,s_.2)]) (fun s_ w' => (w'.cell? ⟨gb443,0,none⟩ = some (.int .i64 a0_0) ∧ w'.cell? ⟨gb443,1,none⟩ = some (.int .i64 a0_1) ∧ w'.cell? ⟨gb443,2,none⟩ = some (.int .i64 a0_2) ∧ w'.cell? ⟨gb443,3,none⟩ = some (.int .i64 a0_3) ∧ w'.cell? ⟨gb443,4,none⟩ = some (.string a0_4)) ∧ (Kd.R (Kd.int .u8) 5 w' w.heap.size (fun k_ => some k_ ≠ (s_.2 : Value).ownBlock) s_.1 y444) ∧ (Kd.R (Kd.int .u8) 5 w' w.heap.size (fun k_ => some k_ ≠ (s_.1 : Value).ownBlock) s_.2 t447) ∧ (w'.heap[gb443]? = some (.cells #[.int .i64 a0_0,.int .i64 a0_1,.int .i64 a0_2,.int .i64 a0_3,.string a0_4] 141 (0,0))) ∧ (Below w.heap.size w w')) ?_ ?_
      rotate_left
      ·intro hCont
       refine two_ (i := 3) (j := 6) (Ni := some 7) (Nj := some 10) #[true,true,true,true,true,true,false,false,false] #[true,true,true,false,true,true,true,false,false] rfl rfl rfl rfl (two_of HT_.out (by kernel_rfl)) (by decide) (by decide) (fun K hK => ?_) (fun K hK => ?_)
       ·skip
        refine Kd.R_lit_step (Kd.int .u8) _ 5 ?hg (N := 7) ?hd (xs := ([(a0_0) % 256] : List Int)) (inner := [.int .u8 ((a0_0) % 256)]) (ok := fun _ => True) (okp := fun _ => True) ?hr ?hp (fun _ hk => hk) trivial (Below.refl _ _) (Nat.le_refl _) (by simp) ?_;(case hd => rfl);(case hg => rfl);(case hr => first | (go_simp;done) | (go_simp;rfl));(case hp => exact (Reps.one (show Kd.M (Kd.int .u8) _ _ _ ((a0_0) % 256) [.int .u8 ((a0_0) % 256)] from rfl) (Reps.none _ _)))
        intro v445 w11 ho12 hb hg_ hnew_
        clear hg_ hnew_
        (first | rw [← Ny444.out] at ho12 | (simp only [Int.reduceToNat] at ho12;rw [← Ny444.out] at ho12))
        have HO446 := am_ (Kd.R_lower ho12 (below_size (zl_ HB)))
        replace BK443 := zb BK443 hb
        replace HB := zs_ HB hb
        clear hb ho12
        refine hK.out _ _ ⟨(blk_cell BK443.out 0).trans rfl,(blk_cell BK443.out 1).trans rfl,(blk_cell BK443.out 2).trans rfl,(blk_cell BK443.out 3).trans rfl,(blk_cell BK443.out 4).trans rfl⟩ (fun hHeld => ?_)
        clear hK K
        refine norm_ (a' := ?_) ?_ ?_
        rotate_left
        ·show Act.put _ (some 7) _ = _
         simp only [Act.put,p1_,p2_,p3_,i64_w,i32_w]
         rfl
        refine zon 6 (N := some 10) HT_ (fun K hK => ?_)
        refine zgo Tryd.func172 #[.int .i64 a0_1,.int .i64 2] ?_
        with_reducible refine (spec_l02Number.calls k a0_1 2 t447 _ A2.out).mono ?_
        rintro e w13 ⟨v448,rfl,ho0,hb⟩
        refine ⟨_,rfl,?_⟩
        have HO449 := am_ (Kd.R_lower (Kd.R_new' ho0 (Kd.R_lt (zr HO446))) (below_size (zl_ HB)))
        replace HO446 := am_ (Kd.R_elder' (zr HO446) (Kd.R_base ho0) hb)
        replace BK443 := zb BK443 hb
        replace HB := zs_ HB hb
        (try clear hb)
        (try clear hb2)
        (try clear hk)
        (try clear hi)
        (try clear ho0)
        refine hK.out _ _ ⟨(blk_cell BK443.out 0).trans rfl,(blk_cell BK443.out 1).trans rfl,(blk_cell BK443.out 2).trans rfl,(blk_cell BK443.out 3).trans rfl,(blk_cell BK443.out 4).trans rfl⟩ (fun hHeld => ?_)
        clear hK K
        refine norm_ (a' := ?_) ?_ ?_
        rotate_left
        ·show Act.put _ (some 10) _ = _
         simp only [Act.put,p1_,p2_,p3_,i64_w,i32_w]
         rfl
        exact norm_ (by simp only [putAll,Act.put,p1_,p2_,p3_]) (hCont (v445,v448) _ ⟨hHeld,(by (with_reducible repeat (first | apply r1_ | apply r2_ | apply r3_));exact Kd.R_mono HO446.out (fun _ hk => hk.2)),(by (with_reducible repeat (first | apply r1_ | apply r2_ | apply r3_));exact Kd.R_mono HO449.out (fun _ hk => hk.2)),(zk BK443),(zl_ HB)⟩)
       ·skip
        refine zgo Tryd.func172 #[.int .i64 a0_1,.int .i64 2] ?_
        with_reducible refine (spec_l02Number.calls k a0_1 2 t447 _ A2.out).mono ?_
        rintro e w11 ⟨v448,rfl,ho0,hb⟩
        refine ⟨_,rfl,?_⟩
        have HO449 := am_ (Kd.R_lower ho0 (below_size (zl_ HB)))
        replace BK443 := zb BK443 hb
        replace HB := zs_ HB hb
        (try clear hb)
        (try clear hb2)
        (try clear hk)
        (try clear hi)
        (try clear ho0)
        refine hK.out _ _ ⟨(blk_cell BK443.out 0).trans rfl,(blk_cell BK443.out 1).trans rfl,(blk_cell BK443.out 2).trans rfl,(blk_cell BK443.out 3).trans rfl,(blk_cell BK443.out 4).trans rfl⟩ (fun hHeld => ?_)
        clear hK K
        refine norm_ (a' := ?_) ?_ ?_
        rotate_left
        ·show Act.put _ (some 10) _ = _
         simp only [Act.put,p1_,p2_,p3_,i64_w,i32_w]
         rfl
        refine zon 3 (N := some 7) HT_ (fun K hK => ?_)
        refine Kd.R_lit_step (Kd.int .u8) _ 5 ?hg (N := 7) ?hd (xs := ([(a0_0) % 256] : List Int)) (inner := [.int .u8 ((a0_0) % 256)]) (ok := fun _ => True) (okp := fun _ => True) ?hr ?hp (fun _ hk => hk) trivial (Below.refl _ _) (Nat.le_refl _) (by simp) ?_;(case hd => rfl);(case hg => rfl);(case hr => first | (go_simp;done) | (go_simp;rfl));(case hp => exact (Reps.one (show Kd.M (Kd.int .u8) _ _ _ ((a0_0) % 256) [.int .u8 ((a0_0) % 256)] from rfl) (Reps.none _ _)))
        intro v445 w12 ho13 hb hg_ hnew_
        clear hg_ hnew_
        (first | rw [← Ny444.out] at ho13 | (simp only [Int.reduceToNat] at ho13;rw [← Ny444.out] at ho13))
        have HO446 := am_ (Kd.R_lower (Kd.R_new' ho13 (Kd.R_lt (zr HO449))) (below_size (zl_ HB)))
        replace HO449 := am_ (Kd.R_elder' (zr HO449) (Kd.R_base ho13) hb)
        replace BK443 := zb BK443 hb
        replace HB := zs_ HB hb
        clear hb ho13
        refine hK.out _ _ ⟨(blk_cell BK443.out 0).trans rfl,(blk_cell BK443.out 1).trans rfl,(blk_cell BK443.out 2).trans rfl,(blk_cell BK443.out 3).trans rfl,(blk_cell BK443.out 4).trans rfl⟩ (fun hHeld => ?_)
        clear hK K
        refine norm_ (a' := ?_) ?_ ?_
        rotate_left
        ·show Act.put _ (some 7) _ = _
         simp only [Act.put,p1_,p2_,p3_,i64_w,i32_w]
         rfl
        exact norm_ (by simp only [putAll,Act.put,p1_,p2_,p3_]) (hCont (v445,v448) _ ⟨hHeld,(by (with_reducible repeat (first | apply r1_ | apply r2_ | apply r3_));exact Kd.R_mono HO446.out (fun _ hk => hk.2)),(by (with_reducible repeat (first | apply r1_ | apply r2_ | apply r3_));exact Kd.R_mono HO449.out (fun _ hk => hk.2)),(zk BK443),(zl_ HB)⟩)
      rintro ⟨v445,v448⟩ w14 ⟨hS_,h0_,h1_,h2_,h3_⟩
      have n0_ : Aside0 (Kd.R (Kd.int .u8) 5 w14 w.heap.size (fun k_ => some k_ ≠ (v448 : Value).ownBlock) v445 y444) := ⟨h0_⟩
      have n1_ : Aside0 (Kd.R (Kd.int .u8) 5 w14 w.heap.size (fun k_ => some k_ ≠ (v445 : Value).ownBlock) v448 t447) := ⟨h1_⟩
      have n2_ : Aside0 (w14.heap[gb443]? = some (.cells #[.int .i64 a0_0,.int .i64 a0_1,.int .i64 a0_2,.int .i64 a0_3,.string a0_4] 141 (0,0))) := ⟨h2_⟩
      have n3_ : Aside0 (Below w.heap.size w w14) := ⟨h3_⟩
      clear BK443
      clear HB
      clear h0_ h1_ h2_ h3_
      have HO446 := n0_
      have HO449 := n1_
      have BK443 := n2_
      have HB := n3_
      clear n0_ n1_ n2_ n3_
      have hHeld : w14.cell? ⟨gb443,0,none⟩ = some (.int .i64 a0_0) ∧ w14.cell? ⟨gb443,1,none⟩ = some (.int .i64 a0_1) ∧ w14.cell? ⟨gb443,2,none⟩ = some (.int .i64 a0_2) ∧ w14.cell? ⟨gb443,3,none⟩ = some (.int .i64 a0_3) ∧ w14.cell? ⟨gb443,4,none⟩ = some (.string a0_4) := hS_
      obtain ⟨Ao16,co16,eo16⟩ := Kd.R_slice HO449.out
      (first | subst eo16 | (injection eo16 with f1_ f2_ f3_;have f4_ := f1_.symm;have f5_ := f3_.symm;clear f1_ f2_ f3_;subst f4_;subst f5_))
      refine norm_ (a' := ?_) ?_ ?_
      rotate_left
      ·simp only [putAll,Act.put,p1_,p2_,p3_]
       rfl
      refine zon 7 (N := some 11) HT_ (fun K hK => ?_)
      refine Kd.R_append_rows_step (Kd.int .u8) (w0 := w) w.heap.size (by rfl) (.tmp 7) (.tmp 10) 31 5 (.int .u8 0) 1 rfl Tryd.underlying31 info5 rfl (by decide) (by omega) v445 y444 t447 _ _ _ (fun k_ => some k_ ≠ (.slice Ao16 t447.length co16 : Value).ownBlock) (fun _ => False) rfl rfl ?aO ?aR (fun _ _ h => h) (fun _ h => h.elim) ?aF ?aB ?aS ?aL ?_
      (case aR => repeat (first | exact (Kd.R_reads' HO449.out).2.2 | (with_reducible refine Kd.C_alloc ?_ _) | (with_reducible refine Kd.C_drewN ?_ _) | (with_reducible refine Kd.C_drew ?_)))
      (case aB => exact (zl_ HB))
      (case aF => exact (fun k_ hk => Kd.fresh' (Kd.R_lt (zr HO449)) k_ hk))
      (case aO => exact (zr HO446))
      (case aS => exact (below_size (zl_ HB)))
      (case aL => have := LMc3.out;omega)
      intro v451 w15 ho hb hg hat
      rw [← Ny450.out] at ho
      replace BK443 := am_ (blk_grown (g := gb443) (o := .cells #[.int .i64 a0_0,.int .i64 a0_1,.int .i64 a0_2,.int .i64 a0_3,.string a0_4] 141 (0,0)) (zk BK443) hg (Kd.R_ne HO446.out BK443.out (by decide)))
      replace HO449 := am_ (Kd.R_after (ok := (fun _ => True)) (by (with_reducible repeat (first | apply r1_ | apply r2_ | apply r3_));exact Kd.R_mono HO449.out (fun _ hk => ⟨trivial,hk⟩)) hg hat)
      replace HB := am_ (hb)
      have HO452 := am_ (ho)
      clear HO446
      clear ho hb hg hat
      refine hK.out _ _ ⟨(blk_cell BK443.out 0).trans rfl,(blk_cell BK443.out 1).trans rfl,(blk_cell BK443.out 2).trans rfl,(blk_cell BK443.out 3).trans rfl,(blk_cell BK443.out 4).trans rfl⟩ (fun hHeld => ?_)
      clear hK K
      refine norm_ (a' := ?_) ?_ ?_
      rotate_left
      ·show Act.put _ (some 11) _ = _
       simp only [Act.put,p1_,p2_,p3_,i64_w,i32_w]
       rfl
      refine zpu 8 (N := some 3) HT_ ?_
      refine done_ (done_of HT_.out (by kernel_rfl)) ?_
      try go_wp2
      replace HO449 := am_ (Kd.R_drew HO449.out)
      replace HO452 := am_ (Kd.R_drew HO452.out)
      replace BK443 := am_ (blk_drew BK443.out)
      replace HB := am_ (below_drew1 HB.out)
      refine start_ (n := 11) (S := fun w' => w'.cell? ⟨gb443,0,none⟩ = some (.int .i64 a0_0) ∧ w'.cell? ⟨gb443,1,none⟩ = some (.int .i64 a0_1) ∧ w'.cell? ⟨gb443,2,none⟩ = some (.int .i64 a0_2) ∧ w'.cell? ⟨gb443,3,none⟩ = some (.int .i64 a0_3) ∧ w'.cell? ⟨gb443,4,none⟩ = some (.string a0_4)) (ds := []) #[false,false,false,false,false,false,false,false,false,false,false] (by kernel_rfl) rfl rfl ⟨(blk_cell BK443.out 0).trans rfl,(blk_cell BK443.out 1).trans rfl,(blk_cell BK443.out 2).trans rfl,(blk_cell BK443.out 3).trans rfl,(blk_cell BK443.out 4).trans rfl⟩ (fun hHeld => ?_);refine with_tabW spec_l02Request.tab2 spec_l02Request.bits2 (fun HT_ HW_ => ?_)
      generalize w15.drew = w17 at HO449 HO452 BK443 HB hHeld ⊢
      refine zpu 0 (N := some 12) HT_ ?_
      refine zpu 1 (N := some 13) HT_ ?_
      refine zpu 6 (N := some 18) HT_ ?_
      refine ztk 2 (N := some 14) HT_ HW_ hHeld ?_
      refine zpu 3 (N := some 15) HT_ ?_
      refine ztk 7 (N := some 19) HT_ HW_ hHeld ?_
      refine zon 4 (N := some 16) HT_ (fun K hK => ?_)
      refine value_ (w1 := ?_) (v := ?_) (by rfl) rfl ?_ ?_
      rotate_left 2
      ·go_simp
       constructor
       ·rfl
       ·rfl
      refine hK.out _ _ ⟨(blk_cell (blk_alloc BK443.out _) 0).trans rfl,(blk_cell (blk_alloc BK443.out _) 1).trans rfl,(blk_cell (blk_alloc BK443.out _) 2).trans rfl,(blk_cell (blk_alloc BK443.out _) 3).trans rfl,(blk_cell (blk_alloc BK443.out _) 4).trans rfl⟩ (fun hHeld => ?_)
      clear hK K
      refine norm_ (a' := ?_) ?_ ?_
      rotate_left
      ·show Act.put _ (some 16) _ = _
       simp only [Act.put,p1_,p2_,p3_,i64_w,i32_w]
       rfl
      refine zon 5 (N := some 17) HT_ (fun K hK => ?_)
      refine Kd.R_append_step (Kd.int .u8) (w0 := w) w.heap.size (by rfl) (.tmp 12) (.tmp 16) 31 5 (.int .u8 0) 1 rfl Tryd.underlying31 info5 rfl (by decide) (by omega) v451 y450 ((a0_2) % 256) [.int .u8 ((a0_2) % 256)] (fun k_ => some k_ ≠ (.slice Ao16 t447.length co16 : Value).ownBlock) (fun _ => False) rfl rfl ?aP (fun _ hk => hk.elim) ?aF ?aO ?aB ?aS ?aL ?_
      (case aP => exact rfl)
      (case aB => exact (zl_ HB))
      (case aF => exact (fun k_ hk => Kd.fresh' (Kd.R_lt (zr HO449)) k_ hk))
      (case aO => exact (zr HO452))
      (case aS => exact (below_size (zl_ HB)))
      (case aL => have := LMc4.out;omega)
      intro v454 w18 ho hb hg hat
      rw [← Ny453.out] at ho
      replace BK443 := am_ (blk_grown (g := gb443) (o := .cells #[.int .i64 a0_0,.int .i64 a0_1,.int .i64 a0_2,.int .i64 a0_3,.string a0_4] 141 (0,0)) (zk BK443) hg (Kd.R_ne HO452.out BK443.out (by decide)))
      replace HO449 := am_ (Kd.R_after (ok := (fun _ => True)) (zr HO449) hg hat)
      replace HB := am_ (hb)
      have HO455 := am_ (ho)
      clear HO452
      clear ho hb hg hat
      refine hK.out _ _ ⟨(blk_cell BK443.out 0).trans rfl,(blk_cell BK443.out 1).trans rfl,(blk_cell BK443.out 2).trans rfl,(blk_cell BK443.out 3).trans rfl,(blk_cell BK443.out 4).trans rfl⟩ (fun hHeld => ?_)
      clear hK K
      refine norm_ (a' := ?_) ?_ ?_
      rotate_left
      ·show Act.put _ (some 17) _ = _
       simp only [Act.put,p1_,p2_,p3_,i64_w,i32_w]
       rfl
      refine zon 8 (N := some 20) HT_ (fun K hK => ?_)
      refine zgo Tryd.func172 #[.int .i64 a0_3,.int .i64 2] ?_
      with_reducible refine (spec_l02Number.calls k a0_3 2 t456 _ A5.out).mono ?_
      rintro e w19 ⟨v457,rfl,ho0,hb⟩
      refine ⟨_,rfl,?_⟩
      have HO458 := am_ (Kd.R_lower (Kd.R_new' (Kd.R_new' ho0 (Kd.R_lt (zr HO449))) (Kd.R_lt (zr HO455))) (below_size (zl_ HB)))
      replace HO449 := am_ (Kd.R_elder' (zr HO449) (Kd.R_base ho0) hb)
      replace HO455 := am_ (Kd.R_elder' (zr HO455) (Kd.R_base ho0) hb)
      replace BK443 := zb BK443 hb
      replace HB := zs_ HB hb
      (try clear hb)
      (try clear hb2)
      (try clear hk)
      (try clear hi)
      (try clear ho0)
      obtain ⟨Ao21,co21,eo21⟩ := Kd.R_slice HO458.out
      (first | subst eo21 | (injection eo21 with f1_ f2_ f3_;have f4_ := f1_.symm;have f5_ := f3_.symm;clear f1_ f2_ f3_;subst f4_;subst f5_))
      refine hK.out _ _ ⟨(blk_cell BK443.out 0).trans rfl,(blk_cell BK443.out 1).trans rfl,(blk_cell BK443.out 2).trans rfl,(blk_cell BK443.out 3).trans rfl,(blk_cell BK443.out 4).trans rfl⟩ (fun hHeld => ?_)
      clear hK K
      refine norm_ (a' := ?_) ?_ ?_
      rotate_left
      ·show Act.put _ (some 20) _ = _
       simp only [Act.put,p1_,p2_,p3_,i64_w,i32_w]
       rfl
      refine zon 9 (N := some 21) HT_ (fun K hK => ?_)
      refine Kd.R_append_rows_step (Kd.int .u8) (w0 := w) w.heap.size (by rfl) (.tmp 17) (.tmp 20) 31 5 (.int .u8 0) 1 rfl Tryd.underlying31 info5 rfl (by decide) (by omega) v454 y453 t456 _ _ _ (fun k_ => some k_ ≠ (.slice Ao16 t447.length co16 : Value).ownBlock ∧ some k_ ≠ (.slice Ao21 t456.length co21 : Value).ownBlock) (fun _ => False) rfl rfl ?aO ?aR (fun _ _ h => h) (fun _ h => h.elim) ?aF ?aB ?aS ?aL ?_
      (case aR => repeat (first | exact (Kd.R_reads' HO458.out).2.2 | (with_reducible refine Kd.C_alloc ?_ _) | (with_reducible refine Kd.C_drewN ?_ _) | (with_reducible refine Kd.C_drew ?_)))
      (case aB => exact (zl_ HB))
      (case aF => exact (fun k_ hk => ⟨Kd.fresh' (Kd.R_lt (zr HO449)) k_ hk,Kd.fresh' (Kd.R_lt (zr HO458)) k_ hk⟩))
      (case aO => exact (zr HO455))
      (case aS => exact (below_size (zl_ HB)))
      (case aL => have := LMc6.out;omega)
      intro v460 w20 ho hb hg hat
      rw [← Ny459.out] at ho
      replace BK443 := am_ (blk_grown (g := gb443) (o := .cells #[.int .i64 a0_0,.int .i64 a0_1,.int .i64 a0_2,.int .i64 a0_3,.string a0_4] 141 (0,0)) (zk BK443) hg (Kd.R_ne HO455.out BK443.out (by decide)))
      replace HO449 := am_ (Kd.R_after (ok := (fun k_ => some k_ ≠ (.slice Ao21 t456.length co21 : Value).ownBlock)) (by (with_reducible repeat (first | apply r1_ | apply r2_ | apply r3_));exact Kd.R_mono HO449.out (fun _ hk => ⟨hk.2,hk.1.2⟩)) hg hat)
      replace HO458 := am_ (Kd.R_after (ok := (fun k_ => some k_ ≠ (.slice Ao16 t447.length co16 : Value).ownBlock)) (by (with_reducible repeat (first | apply r1_ | apply r2_ | apply r3_));exact Kd.R_mono HO458.out (fun _ hk => ⟨hk.1.2,hk.2⟩)) hg hat)
      replace HB := am_ (hb)
      have HO461 := am_ (ho)
      clear HO455
      clear ho hb hg hat
      refine hK.out _ _ ⟨(blk_cell BK443.out 0).trans rfl,(blk_cell BK443.out 1).trans rfl,(blk_cell BK443.out 2).trans rfl,(blk_cell BK443.out 3).trans rfl,(blk_cell BK443.out 4).trans rfl⟩ (fun hHeld => ?_)
      clear hK K
      refine norm_ (a' := ?_) ?_ ?_
      rotate_left
      ·show Act.put _ (some 21) _ = _
       simp only [Act.put,p1_,p2_,p3_,i64_w,i32_w]
       rfl
      refine zpu 10 (N := some 3) HT_ ?_
      refine done_ (done_of HT_.out (by kernel_rfl)) ?_
      try go_wp2
      replace HO449 := am_ (Kd.R_drew HO449.out)
      replace HO458 := am_ (Kd.R_drew HO458.out)
      replace HO461 := am_ (Kd.R_drew HO461.out)
      replace BK443 := am_ (blk_drew BK443.out)
      replace HB := am_ (below_drew1 HB.out)
      refine start_ (n := 11) (S := fun w' => w'.cell? ⟨gb443,0,none⟩ = some (.int .i64 a0_0) ∧ w'.cell? ⟨gb443,1,none⟩ = some (.int .i64 a0_1) ∧ w'.cell? ⟨gb443,2,none⟩ = some (.int .i64 a0_2) ∧ w'.cell? ⟨gb443,3,none⟩ = some (.int .i64 a0_3) ∧ w'.cell? ⟨gb443,4,none⟩ = some (.string a0_4)) (ds := []) #[false,false,false,false,false,false,false,false,false,false,false] (by kernel_rfl) rfl rfl ⟨(blk_cell BK443.out 0).trans rfl,(blk_cell BK443.out 1).trans rfl,(blk_cell BK443.out 2).trans rfl,(blk_cell BK443.out 3).trans rfl,(blk_cell BK443.out 4).trans rfl⟩ (fun hHeld => ?_);refine with_tabW spec_l02Request.tab3 spec_l02Request.bits3 (fun HT_ HW_ => ?_)
      generalize w20.drew = w22 at HO449 HO458 HO461 BK443 HB hHeld ⊢
      refine zpu 0 (N := some 22) HT_ ?_
      refine zpu 1 (N := some 23) HT_ ?_
      refine zpu 7 (N := some 29) HT_ ?_
      refine ztk 2 (N := some 24) HT_ HW_ hHeld ?_
      refine zpu 3 (N := some 25) HT_ ?_
      refine zpu 4 (N := some 26) HT_ ?_
      refine ztk 8 (N := some 30) HT_ HW_ hHeld ?_
      refine zon 5 (N := some 27) HT_ (fun K hK => ?_)
      refine value_ (w1 := ?_) (v := ?_) (by rfl) rfl ?_ ?_
      rotate_left 2
      ·go_simp
       constructor
       ·rfl
       ·rfl
      refine hK.out _ _ ⟨(blk_cell (blk_alloc BK443.out _) 0).trans rfl,(blk_cell (blk_alloc BK443.out _) 1).trans rfl,(blk_cell (blk_alloc BK443.out _) 2).trans rfl,(blk_cell (blk_alloc BK443.out _) 3).trans rfl,(blk_cell (blk_alloc BK443.out _) 4).trans rfl⟩ (fun hHeld => ?_)
      clear hK K
      refine norm_ (a' := ?_) ?_ ?_
      rotate_left
      ·show Act.put _ (some 27) _ = _
       simp only [Act.put,p1_,p2_,p3_,i64_w,i32_w]
       rfl
      refine zon 6 (N := some 28) HT_ (fun K hK => ?_)
      refine Kd.R_append_step (Kd.int .u8) (w0 := w) w.heap.size (by rfl) (.tmp 22) (.tmp 27) 31 5 (.int .u8 0) 1 rfl Tryd.underlying31 info5 rfl (by decide) (by omega) v460 y459 (((a0_4.size : Int)) % 256) [.int .u8 (((a0_4.size : Int)) % 256)] (fun k_ => some k_ ≠ (.slice Ao16 t447.length co16 : Value).ownBlock ∧ some k_ ≠ (.slice Ao21 t456.length co21 : Value).ownBlock) (fun _ => False) rfl rfl ?aP (fun _ hk => hk.elim) ?aF ?aO ?aB ?aS ?aL ?_
      (case aP => exact rfl)
      (case aB => exact (zl_ HB))
      (case aF => exact (fun k_ hk => ⟨Kd.fresh' (Kd.R_lt (zr HO449)) k_ hk,Kd.fresh' (Kd.R_lt (zr HO458)) k_ hk⟩))
      (case aO => exact (zr HO461))
      (case aS => exact (below_size (zl_ HB)))
      (case aL => have := LMc7.out;omega)
      intro v463 w23 ho hb hg hat
      rw [← Ny462.out] at ho
      replace BK443 := am_ (blk_grown (g := gb443) (o := .cells #[.int .i64 a0_0,.int .i64 a0_1,.int .i64 a0_2,.int .i64 a0_3,.string a0_4] 141 (0,0)) (zk BK443) hg (Kd.R_ne HO461.out BK443.out (by decide)))
      replace HO449 := am_ (Kd.R_after (ok := (fun k_ => some k_ ≠ (.slice Ao21 t456.length co21 : Value).ownBlock)) (zr HO449) hg hat)
      replace HO458 := am_ (Kd.R_after (ok := (fun k_ => some k_ ≠ (.slice Ao16 t447.length co16 : Value).ownBlock)) (zr HO458) hg hat)
      replace HB := am_ (hb)
      have HO464 := am_ (ho)
      clear HO461
      clear ho hb hg hat
      refine hK.out _ _ ⟨(blk_cell BK443.out 0).trans rfl,(blk_cell BK443.out 1).trans rfl,(blk_cell BK443.out 2).trans rfl,(blk_cell BK443.out 3).trans rfl,(blk_cell BK443.out 4).trans rfl⟩ (fun hHeld => ?_)
      clear hK K
      refine norm_ (a' := ?_) ?_ ?_
      rotate_left
      ·show Act.put _ (some 28) _ = _
       simp only [Act.put,p1_,p2_,p3_,i64_w,i32_w]
       rfl
      refine zon 9 (N := some 31) HT_ (fun K hK => ?_)
      refine Kd.R_append_str_step (Kd.int .u8) rfl (w0 := w) w.heap.size (by rfl) (.tmp 28) _ 31 9 5 rfl Tryd.underlying31 Tryd.underlying9 info5 v463 y462 a0_4 (fun k_ => some k_ ≠ (.slice Ao16 t447.length co16 : Value).ownBlock ∧ some k_ ≠ (.slice Ao21 t456.length co21 : Value).ownBlock) rfl rfl ?aO ?aF ?aB ?aS ?aL ?_
      (case aB => exact (zl_ HB))
      (case aF => exact (fun k_ hk => ⟨Kd.fresh' (Kd.R_lt (zr HO449)) k_ hk,Kd.fresh' (Kd.R_lt (zr HO458)) k_ hk⟩))
      (case aO => exact (zr HO464))
      (case aS => exact (below_size (zl_ HB)))
      (case aL => have := LMc8.out;omega)
      intro v466 w24 ho hb hg hat
      rw [← Ny465.out] at ho
      replace BK443 := am_ (blk_grown (g := gb443) (o := .cells #[.int .i64 a0_0,.int .i64 a0_1,.int .i64 a0_2,.int .i64 a0_3,.string a0_4] 141 (0,0)) (zk BK443) hg (Kd.R_ne HO464.out BK443.out (by decide)))
      replace HB := am_ (hb)
      have HO467 := am_ (ho)
      clear HO464
      clear ho hb hg hat
      refine hK.out _ _ ⟨(blk_cell BK443.out 0).trans rfl,(blk_cell BK443.out 1).trans rfl,(blk_cell BK443.out 2).trans rfl,(blk_cell BK443.out 3).trans rfl,(blk_cell BK443.out 4).trans rfl⟩ (fun hHeld => ?_)
      clear hK K
      refine norm_ (a' := ?_) ?_ ?_
      rotate_left
      ·show Act.put _ (some 31) _ = _
       simp only [Act.put,p1_,p2_,p3_,i64_w,i32_w]
       rfl
      refine zpu 10 (N := some 2) HT_ ?_
      refine done_ (done_of HT_.out (by kernel_rfl)) ?_
      try go_wp2
      go_ret
      exact ⟨_,zt_,by (with_reducible repeat (first | apply r1_ | apply r2_ | apply r3_));exact Kd.R_mono HO467.out (fun _ hk => trivial),zl_ HB⟩
     ·rw [if_neg c8] at H
      exact absurd H (by simp)
    ·rw [if_neg c7] at H
     exact absurd H (by simp)
   ·rw [if_neg c6] at H
    exact absurd H (by simp)
  ·rw [if_neg c4] at H
   exact absurd H (by simp)
 ·rw [if_neg c3] at H
  exact absurd H (by simp)
def spec_l02Batch.T7 : Bool × List (List Nat × List Nat) := (true,[([],[]),([],[]),([1],[1]),([],[]),([2,3],[2,3]),([4],[4]),([5],[5]),([6],[6]),([7],[7]),([0,8],[0,8]),([],[]),([10],[10]),([],[]),([11,12],[11,12]),([13],[13]),([14],[14]),([15,9],[15]),([9,16,16],[9,16]),([17,17,0,1,2,3,4,5,6,7,8,9,10,11,12,13,14,15,16,17],[0,17])])
def spec_l02Batch.B7 : List Nat := [0,0,2,0,14,30,62,126,254,511,0,1024,0,7168,15360,31744,65535,131071,262143]
theorem spec_l02Batch.tab7 : rtab .any (opsOf Tryd.f124 7) = spec_l02Batch.T7 := by kernel_rfl
theorem spec_l02Batch.bits7 : waitsOk spec_l02Batch.T7.2 spec_l02Batch.B7 = true := by kernel_rfl
set_option maxHeartbeats 8000000 in
set_option maxRecDepth 100000 in
theorem spec_l02Batch.calls (k : Nat) (a0_0 : Bool) (a0_1 : Int) (a0_2 : Int) (a0_3 : Int) (a0_4 : Int) (a0_5 : ByteArray) (A0_6 : Option Addr) (c0_6 : Nat) (l0_6 : List (S182)) (r : List Int) (w : World) (hr0_6 : Kd.C k182 w A0_6 l0_6.length l0_6) (hc0_6 : l0_6.length ≤ c0_6) (h : spec_l02Batch.f k a0_0 a0_1 a0_2 a0_3 a0_4 a0_5 l0_6 = some r) :
  Calls Tryd.prog 124 #[.agg #[.bool a0_0,.int .i64 a0_1,.int .i64 a0_2,.int .i64 a0_3,.int .i64 a0_4,.string a0_5,.slice A0_6 l0_6.length c0_6]] w fun e w' => ∃ v0_ : Value,e = .returned (v0_) ∧ Kd.R (Kd.int .u8) 5 w' w.heap.size (fun _ => True) v0_ r ∧ Below w.heap.size w w' := by
 have hu144 := Tryd.underlying144
 have hu141 := Tryd.underlying141
 have HR0_6 := am_ hr0_6
 have HC0_6 := am_ hc0_6
 clear hr0_6 hc0_6
 have HB := am_ (Below.refl w.heap.size w)
 have H : (if a0_0 = true then (some (([0] : List Int))) else (spec_l02Batch.l0 k (([(wrap64 (1 + (l0_6.length : Int))) % 256] : List Int)) 0 a0_0 a0_1 a0_2 a0_3 a0_4 a0_5 l0_6)) = some r := h
 clear h
 by_cases c2 : a0_0 = true
 ·subst c2
  have H1 : (some (([0] : List Int))) = some r := by rw [if_pos rfl] at H;exact H
  clear H
  have H := H1
  clear H1
  obtain ⟨y469,hy469⟩ : ∃ y_ : List Int,y_ = (([0] : List Int)) := ⟨_,rfl⟩
  replace H : (some y469) = some r := by first | (rw [hy469];with_reducible exact H) | (have H2_ := (Option.bind_some _ _).symm.trans H;rw [hy469];with_reducible exact H2_) | (have H2_ := (Option.bind_some _ _).symm.trans H;with_reducible exact H2_) | with_reducible exact H | (rw [hy469];exact H) | exact H
  have Ny469 := am_ hy469
  clear hy469
  obtain rfl := Option.some.inj H
  go_enter Tryd.func124,Tryd.ntmps124
  go_wp2_with (first | ((with_reducible refine gate_dst (N := 1) rfl ?_);refine zbx (N := 1) (cs := #[.bool true,.int .i64 a0_1,.int .i64 a0_2,.int .i64 a0_3,.int .i64 a0_4,.string a0_5,.slice A0_6 l0_6.length c0_6]) (t := 144) ?_;intro gb468 hg w3 hbox hb;have BK468 := am_ (hbox);have GW468 := zw_ HB hg;have GE468 := zw_ HB hg;replace HB := zs_ HB hb;clear hb hbox hg;obtain ⟨hcz4_0,hcz4_1,hcz4_2,hcz4_3,hcz4_4,hcz4_5,hcz4_6,hfz4_0,hfz4_1,hfz4_2,hfz4_3,hfz4_4,hfz4_5,hfz4_6⟩ := zc7 BK468) | ((with_reducible refine gate_dst (N := 7) rfl ?_);refine Kd.R_lit (Kd.int .u8) _ 5 ?hg (N := 7) ?hd (xs := ([0] : List Int)) (inner := [.int .u8 0]) (ok := fun _ => True) (okp := fun _ => True) ?hr ?hp (fun _ hk => hk) trivial (Below.refl _ _) (Nat.le_refl _) (by simp) ?_;(case hd => rfl);(case hg => rfl);(case hr => first | (go_simp;done) | (go_simp;rfl));(case hp => exact (Reps.one (show Kd.M (Kd.int .u8) _ _ _ 0 [.int .u8 0] from rfl) (Reps.none _ _)));intro v470 w5 ho6 hb hg_ hnew_;clear hg_ hnew_;(first | rw [← Ny469.out] at ho6 | (simp only [Int.reduceToNat] at ho6;rw [← Ny469.out] at ho6));have HO471 := am_ (Kd.R_lower ho6 (below_size (zl_ HB)));replace BK468 := zb BK468 hb;replace HB := zs_ HB hb;clear hb ho6))
  go_ret
  exact ⟨_,zt_,zr HO471,zl_ HB⟩
 ·replace c2 := Bool.eq_false_iff.mpr c2
  subst c2
  have H1 : (spec_l02Batch.l0 k (([(wrap64 (1 + (l0_6.length : Int))) % 256] : List Int)) 0 false a0_1 a0_2 a0_3 a0_4 a0_5 l0_6) = some r := by rw [if_neg (show ¬ (false = true) by decide)] at H;exact H
  clear H
  have H := H1
  clear H1
  obtain ⟨y472,hy472⟩ : ∃ y_ : List Int,y_ = (([(wrap64 (1 + (l0_6.length : Int))) % 256] : List Int)) := ⟨_,rfl⟩
  replace H : (spec_l02Batch.l0 k y472 0 false a0_1 a0_2 a0_3 a0_4 a0_5 l0_6) = some r := by first | (rw [hy472];with_reducible exact H) | (have H2_ := (Option.bind_some _ _).symm.trans H;rw [hy472];with_reducible exact H2_) | (have H2_ := (Option.bind_some _ _).symm.trans H;with_reducible exact H2_) | with_reducible exact H | (rw [hy472];exact H) | exact H
  have Ny472 := am_ hy472
  clear hy472
  have H' := am_ H
  clear H
  go_enter Tryd.func124,Tryd.ntmps124
  go_wp2_with (first | ((with_reducible refine gate_dst (N := 1) rfl ?_);refine zbx (N := 1) (cs := #[.bool false,.int .i64 a0_1,.int .i64 a0_2,.int .i64 a0_3,.int .i64 a0_4,.string a0_5,.slice A0_6 l0_6.length c0_6]) (t := 144) ?_;intro gb468 hg w7 hbox hb;have BK468 := am_ (hbox);have GW468 := zw_ HB hg;have GE468 := zw_ HB hg;replace HB := zs_ HB hb;clear hb hbox hg;obtain ⟨hcz8_0,hcz8_1,hcz8_2,hcz8_3,hcz8_4,hcz8_5,hcz8_6,hfz8_0,hfz8_1,hfz8_2,hfz8_3,hfz8_4,hfz8_5,hfz8_6⟩ := zc7 BK468) | ((with_reducible refine gate_dst (N := 13) rfl ?_);refine Kd.R_lit (Kd.int .u8) _ 5 ?hg (N := 13) ?hd (xs := ([(wrap64 (1 + (l0_6.length : Int))) % 256] : List Int)) (inner := [.int .u8 ((wrap64 (1 + (l0_6.length : Int))) % 256)]) (ok := fun _ => True) (okp := fun _ => True) ?hr ?hp (fun _ hk => hk) trivial (Below.refl _ _) (Nat.le_refl _) (by simp) ?_;(case hd => rfl);(case hg => rfl);(case hr => first | (go_simp;done) | (go_simp;rfl));(case hp => exact (Reps.one (show Kd.M (Kd.int .u8) _ _ _ ((wrap64 (1 + (l0_6.length : Int))) % 256) [.int .u8 ((wrap64 (1 + (l0_6.length : Int))) % 256)] from rfl) (Reps.none _ _)));intro v473 w9 ho10 hb hg_ hnew_;clear hg_ hnew_;(first | rw [← Ny472.out] at ho10 | (simp only [Int.reduceToNat] at ho10;rw [← Ny472.out] at ho10));have HO474 := am_ (Kd.R_lower ho10 (below_size (zl_ HB)));replace BK468 := zb BK468 hb;replace HB := zs_ HB hb;clear hb ho10))
  go_loopg [3,4] k (fun kq v3 v4 w' => ∃ (x3_1 : List Int) (x4_1 : Int),v4 = .int .i64 x4_1 ∧ Aside0 (spec_l02Batch.l0 kq x3_1 x4_1 false a0_1 a0_2 a0_3 a0_4 a0_5 l0_6 = some r) ∧ Aside0 (kq ≤ k) ∧ Aside0 (Kd.R (Kd.int .u8) 5 w' w.heap.size (fun _ => True) v3 x3_1) ∧ Aside0 (w'.heap[gb468]? = some (.cells #[.bool false,.int .i64 a0_1,.int .i64 a0_2,.int .i64 a0_3,.int .i64 a0_4,.string a0_5,(.slice A0_6 l0_6.length c0_6)] 144 (0,0))) ∧ Aside0 (Below w.heap.size w w'))
  case atStart => exact ⟨(y472),(0),(by first | rfl | (simp;done) | (simp [*];done)),H',⟨Nat.le_refl _⟩,⟨zr HO474⟩,⟨by (with_reducible repeat (first | apply k1_ | apply k2_ | apply k3_));exact BK468.out⟩,⟨zl_ HB⟩⟩
  case round =>
   clear H'
   try clear c1
   try clear c2
   try clear p2
   try clear p6
   try clear hcz4_0
   try clear hcz4_1
   try clear hcz4_2
   try clear hcz4_3
   try clear hcz4_4
   try clear hcz4_5
   try clear hcz4_6
   try clear hcz8_0
   try clear hcz8_1
   try clear hcz8_2
   try clear hcz8_3
   try clear hcz8_4
   try clear hcz8_5
   try clear hcz8_6
   try clear hfz4_0
   try clear hfz4_1
   try clear hfz4_2
   try clear hfz4_3
   try clear hfz4_4
   try clear hfz4_5
   try clear hfz4_6
   try clear hfz8_0
   try clear hfz8_1
   try clear hfz8_2
   try clear hfz8_3
   try clear hfz8_4
   try clear hfz8_5
   try clear hfz8_6
   obtain ⟨x3_1,x4_1,rfl,HA,HK1,HO_3,BK468,HB⟩ := hrel
   cases gk with
   | zero => exact absurd HA.out (by simp [spec_l02Batch.l0])
   | succ k1 =>
    have H := HA.out
    clear HA
    simp only [spec_l02Batch.l0] at H
    by_cases c11 : x4_1 < (l0_6.length : Int)
    ·rw [if_pos c11] at H
     have c11b0 : decide (x4_1 < (l0_6.length : Int)) = true := decide_eq_true c11
     clear c11
     by_cases c12 : 0 ≤ x4_1
     ·rw [if_pos c12] at H
      have c12b0 : decide (0 ≤ x4_1) = true := decide_eq_true c12
      clear c12
      by_cases c13 : x3_1.length < 140737488355328
      ·rw [if_pos c13] at H
       have LMc13 := am_ c13
       clear c13
       obtain ⟨y476,hy476⟩ : ∃ y_ : List Int,y_ = (x3_1 ++ [((rd_T182 l0_6 x4_1).f0) % 256]) := ⟨_,rfl⟩
       replace H : ((spec_l02Number.f k1 ((rd_T182 l0_6 x4_1).f1) 4).bind fun t480 => (if y476.length + t480.length < 140737488355328 then ((some (y476 ++ t480 : List Int)).bind fun y483 => (if y483.length + ((rd_T182 l0_6 x4_1).f2).size < 140737488355328 then (spec_l02Batch.l0 k1 (y483 ++ bytesOf ((rd_T182 l0_6 x4_1).f2)) (wrap64 (x4_1 + 1)) false a0_1 a0_2 a0_3 a0_4 a0_5 l0_6) else (none))) else (none))) = some r := by first | (rw [hy476];with_reducible exact H) | (have H2_ := (Option.bind_some _ _).symm.trans H;rw [hy476];with_reducible exact H2_) | (have H2_ := (Option.bind_some _ _).symm.trans H;with_reducible exact H2_) | with_reducible exact H | (rw [hy476];exact H) | exact H
       have Ny476 := am_ hy476
       clear hy476
       replace H := Option.bind_eq_some_iff.mp H
       obtain ⟨t480,A140,H⟩ := H
       try dsimp only at H
       have A14 := am_ A140
       clear A140
       by_cases c15 : y476.length + t480.length < 140737488355328
       ·rw [if_pos c15] at H
        have LMc15 := am_ c15
        clear c15
        obtain ⟨y483,hy483⟩ : ∃ y_ : List Int,y_ = (y476 ++ t480) := ⟨_,rfl⟩
        replace H : (if y483.length + ((rd_T182 l0_6 x4_1).f2).size < 140737488355328 then (spec_l02Batch.l0 k1 (y483 ++ bytesOf ((rd_T182 l0_6 x4_1).f2)) (wrap64 (x4_1 + 1)) false a0_1 a0_2 a0_3 a0_4 a0_5 l0_6) else (none)) = some r := by first | (rw [hy483];with_reducible exact H) | (have H2_ := (Option.bind_some _ _).symm.trans H;rw [hy483];with_reducible exact H2_) | (have H2_ := (Option.bind_some _ _).symm.trans H;with_reducible exact H2_) | with_reducible exact H | (rw [hy483];exact H) | exact H
        have Ny483 := am_ hy483
        clear hy483
        by_cases c16 : y483.length + ((rd_T182 l0_6 x4_1).f2).size < 140737488355328
        ·rw [if_pos c16] at H
         have LMc16 := am_ c16
         clear c16
         obtain ⟨y487,hy487⟩ : ∃ y_ : List Int,y_ = (y483 ++ bytesOf ((rd_T182 l0_6 x4_1).f2)) := ⟨_,rfl⟩
         replace H : (spec_l02Batch.l0 k1 y487 (wrap64 (x4_1 + 1)) false a0_1 a0_2 a0_3 a0_4 a0_5 l0_6) = some r := by first | (rw [hy487];with_reducible exact H) | (have H2_ := (Option.bind_some _ _).symm.trans H;rw [hy487];with_reducible exact H2_) | (have H2_ := (Option.bind_some _ _).symm.trans H;with_reducible exact H2_) | with_reducible exact H | (rw [hy487];exact H) | exact H
         have Ny487 := am_ hy487
         clear hy487
         have H' := am_ H
         clear H
         obtain ⟨hcz17_0,hcz17_1,hcz17_2,hcz17_3,hcz17_4,hcz17_5,hcz17_6,hfz17_0,hfz17_1,hfz17_2,hfz17_3,hfz17_4,hfz17_5,hfz17_6⟩ := zc7 BK468
         try go_wp2
         replace HO_3 := am_ (Kd.R_drew HO_3.out)
         replace BK468 := am_ (blk_drew BK468.out)
         replace HB := am_ (below_drew1 HB.out)
         have p475 : 0 ≤ (x4_1 : Int) := zo_
         have q475 : x4_1 < (l0_6.length : Int) := zo_
         obtain ⟨ad475,e475,hx475_0,hx475_1,hx475_2⟩ := at_T182 HR0_6.out x4_1 p475 q475
         have hw475_2 := hx475_2
         have hw475_1 := hx475_1
         have hw475_0 := hx475_0
         cases e475
         replace hx475_0 := zx_ HB hx475_0
         replace hx475_1 := zx_ HB hx475_1
         replace hx475_2 := zx_ HB hx475_2
         replace p475 := eq_true p475
         replace q475 := eq_true q475
         have p479 : 0 ≤ (x4_1 : Int) := zo_
         have q479 : x4_1 < (l0_6.length : Int) := zo_
         obtain ⟨ad479,e479,hx479_0,hx479_1,hx479_2⟩ := at_T182 HR0_6.out x4_1 p479 q479
         have hw479_2 := hx479_2
         have hw479_1 := hx479_1
         have hw479_0 := hx479_0
         obtain rfl : ad475 = ad479 := (by injection e479)
         replace hx479_0 := zx_ HB hx479_0
         replace hx479_1 := zx_ HB hx479_1
         replace hx479_2 := zx_ HB hx479_2
         replace p479 := eq_true p479
         replace q479 := eq_true q479
         refine start_ (n := 19) (S := fun w' => w'.cell? ⟨gb468,0,none⟩ = some (.bool false) ∧ w'.cell? ⟨gb468,1,none⟩ = some (.int .i64 a0_1) ∧ w'.cell? ⟨gb468,2,none⟩ = some (.int .i64 a0_2) ∧ w'.cell? ⟨gb468,3,none⟩ = some (.int .i64 a0_3) ∧ w'.cell? ⟨gb468,4,none⟩ = some (.int .i64 a0_4) ∧ w'.cell? ⟨gb468,5,none⟩ = some (.string a0_5) ∧ w'.cell? ⟨gb468,6,none⟩ = some (.slice (some ad475) l0_6.length c0_6) ∧ w'.cell? (ad475.add ((x4_1).toNat * 3)) = some (.int .i64 ((rd_T182 l0_6 x4_1).f0)) ∧ w'.cell? ⟨(ad475.add ((x4_1).toNat * 3)).block,(ad475.add ((x4_1).toNat * 3)).off + 1,none⟩ = some (.int .i64 ((rd_T182 l0_6 x4_1).f1)) ∧ w'.cell? ⟨(ad475.add ((x4_1).toNat * 3)).block,(ad475.add ((x4_1).toNat * 3)).off + 2,none⟩ = some (.string ((rd_T182 l0_6 x4_1).f2)) ∧ w'.cell? (ad475.add ((x4_1).toNat * 3)) = some (.int .i64 ((rd_T182 l0_6 x4_1).f0)) ∧ w'.cell? ⟨(ad475.add ((x4_1).toNat * 3)).block,(ad475.add ((x4_1).toNat * 3)).off + 1,none⟩ = some (.int .i64 ((rd_T182 l0_6 x4_1).f1)) ∧ w'.cell? ⟨(ad475.add ((x4_1).toNat * 3)).block,(ad475.add ((x4_1).toNat * 3)).off + 2,none⟩ = some (.string ((rd_T182 l0_6 x4_1).f2))) (ds := []) #[false,false,false,false,false,false,false,false,false,false,false,false,false,false,false,false,false,false,false] (by kernel_rfl) rfl rfl ⟨(blk_cell BK468.out 0).trans rfl,(blk_cell BK468.out 1).trans rfl,(blk_cell BK468.out 2).trans rfl,(blk_cell BK468.out 3).trans rfl,(blk_cell BK468.out 4).trans rfl,(blk_cell BK468.out 5).trans rfl,(blk_cell BK468.out 6).trans rfl,(zx_ HB hw475_0),(zx_ HB hw475_1),(zx_ HB hw475_2),(zx_ HB hw479_0),(zx_ HB hw479_1),(zx_ HB hw479_2)⟩ (fun hHeld => ?_);refine with_tabW spec_l02Batch.tab7 spec_l02Batch.bits7 (fun HT_ HW_ => ?_)
         generalize wr.drew = w18 at HO_3 BK468 HB hx475_0 hx475_1 hx475_2 hx479_0 hx479_1 hx479_2 hHeld ⊢
         refine zpu 0 (N := some 21) HT_ ?_
         refine zpu 1 (N := some 22) HT_ ?_
         refine zpu 3 (N := some 24) HT_ ?_
         refine zpu 10 (N := some 31) HT_ ?_
         refine zpu 12 (N := some 33) HT_ ?_
         refine ztk 2 (N := some 23) HT_ HW_ hHeld ?_
         refine zpu 4 (N := some 25) HT_ ?_
         refine zpu 5 (N := some 26) HT_ ?_
         refine ztk 6 (N := some 27) HT_ HW_ hHeld ?_
         refine zpu 7 (N := some 28) HT_ ?_
         refine ztk 11 (N := some 32) HT_ HW_ hHeld ?_
         refine zpu 13 (N := some 34) HT_ ?_
         refine zpu 14 (N := some 35) HT_ ?_
         refine ztk 15 (N := some 36) HT_ HW_ hHeld ?_
         refine zon 8 (N := some 29) HT_ (fun K hK => ?_)
         refine value_ (w1 := ?_) (v := ?_) (by rfl) rfl ?_ ?_
         rotate_left 2
         ·go_simp
          constructor
          ·rfl
          ·rfl
         refine hK.out _ _ ⟨(blk_cell (blk_alloc BK468.out _) 0).trans rfl,(blk_cell (blk_alloc BK468.out _) 1).trans rfl,(blk_cell (blk_alloc BK468.out _) 2).trans rfl,(blk_cell (blk_alloc BK468.out _) 3).trans rfl,(blk_cell (blk_alloc BK468.out _) 4).trans rfl,(blk_cell (blk_alloc BK468.out _) 5).trans rfl,(blk_cell (blk_alloc BK468.out _) 6).trans rfl,(World.cell?_alloc_lt _ _ _ (World.block_lt_of_cell? _ _ ((zx_ HB hw475_0)))).trans ((zx_ HB hw475_0)),(World.cell?_alloc_lt _ _ _ (World.block_lt_of_cell? _ _ ((zx_ HB hw475_1)))).trans ((zx_ HB hw475_1)),(World.cell?_alloc_lt _ _ _ (World.block_lt_of_cell? _ _ ((zx_ HB hw475_2)))).trans ((zx_ HB hw475_2)),(World.cell?_alloc_lt _ _ _ (World.block_lt_of_cell? _ _ ((zx_ HB hw479_0)))).trans ((zx_ HB hw479_0)),(World.cell?_alloc_lt _ _ _ (World.block_lt_of_cell? _ _ ((zx_ HB hw479_1)))).trans ((zx_ HB hw479_1)),(World.cell?_alloc_lt _ _ _ (World.block_lt_of_cell? _ _ ((zx_ HB hw479_2)))).trans ((zx_ HB hw479_2))⟩ (fun hHeld => ?_)
         clear hK K
         refine norm_ (a' := ?_) ?_ ?_
         rotate_left
         ·show Act.put _ (some 29) _ = _
          simp only [Act.put,p1_,p2_,p3_,i64_w,i32_w]
          rfl
         refine zon 9 (N := some 30) HT_ (fun K hK => ?_)
         refine Kd.R_append_step (Kd.int .u8) (w0 := w) w.heap.size (by rfl) (.tmp 21) (.tmp 29) 31 5 (.int .u8 0) 1 rfl Tryd.underlying31 info5 rfl (by decide) (by omega) u3 x3_1 (((rd_T182 l0_6 x4_1).f0) % 256) [.int .u8 (((rd_T182 l0_6 x4_1).f0) % 256)] (fun _ => True) (fun _ => False) rfl rfl ?aP (fun _ hk => hk.elim) ?aF ?aO ?aB ?aS ?aL ?_
         (case aP => exact rfl)
         (case aB => exact (zl_ HB))
         (case aF => exact (fun _ _ => trivial))
         (case aO => exact (zr HO_3))
         (case aS => exact (below_size (zl_ HB)))
         (case aL => have := LMc13.out;omega)
         intro v477 w19 ho hb hg hat
         rw [← Ny476.out] at ho
         replace BK468 := am_ (blk_grown (g := gb468) (o := .cells #[.bool false,.int .i64 a0_1,.int .i64 a0_2,.int .i64 a0_3,.int .i64 a0_4,.string a0_5,.slice (some ad475) l0_6.length c0_6] 144 (0,0)) (zk BK468) hg (Kd.R_ne HO_3.out BK468.out (by decide)))
         replace HB := am_ (hb)
         have HO478 := am_ (ho)
         clear HO_3
         clear ho hb hg hat
         refine hK.out _ _ ⟨(blk_cell BK468.out 0).trans rfl,(blk_cell BK468.out 1).trans rfl,(blk_cell BK468.out 2).trans rfl,(blk_cell BK468.out 3).trans rfl,(blk_cell BK468.out 4).trans rfl,(blk_cell BK468.out 5).trans rfl,(blk_cell BK468.out 6).trans rfl,(zx_ HB hw475_0),(zx_ HB hw475_1),(zx_ HB hw475_2),(zx_ HB hw479_0),(zx_ HB hw479_1),(zx_ HB hw479_2)⟩ (fun hHeld => ?_)
         clear hK K
         refine norm_ (a' := ?_) ?_ ?_
         rotate_left
         ·show Act.put _ (some 30) _ = _
          simp only [Act.put,p1_,p2_,p3_,i64_w,i32_w]
          rfl
         refine zon 16 (N := some 37) HT_ (fun K hK => ?_)
         refine zgo Tryd.func172 #[.int .i64 ((rd_T182 l0_6 x4_1).f1),.int .i64 4] ?_
         with_reducible refine (spec_l02Number.calls k1 ((rd_T182 l0_6 x4_1).f1) 4 t480 _ A14.out).mono ?_
         rintro e w20 ⟨v481,rfl,ho0,hb⟩
         refine ⟨_,rfl,?_⟩
         have HO482 := am_ (Kd.R_lower (Kd.R_new' ho0 (Kd.R_lt (zr HO478))) (below_size (zl_ HB)))
         replace HO478 := am_ (Kd.R_elder' (zr HO478) (Kd.R_base ho0) hb)
         replace BK468 := zb BK468 hb
         replace HB := zs_ HB hb
         (try clear hb)
         (try clear hb2)
         (try clear hk)
         (try clear hi)
         (try clear ho0)
         obtain ⟨Ao22,co22,eo22⟩ := Kd.R_slice HO482.out
         (first | subst eo22 | (injection eo22 with f1_ f2_ f3_;have f4_ := f1_.symm;have f5_ := f3_.symm;clear f1_ f2_ f3_;subst f4_;subst f5_))
         refine hK.out _ _ ⟨(blk_cell BK468.out 0).trans rfl,(blk_cell BK468.out 1).trans rfl,(blk_cell BK468.out 2).trans rfl,(blk_cell BK468.out 3).trans rfl,(blk_cell BK468.out 4).trans rfl,(blk_cell BK468.out 5).trans rfl,(blk_cell BK468.out 6).trans rfl,(zx_ HB hw475_0),(zx_ HB hw475_1),(zx_ HB hw475_2),(zx_ HB hw479_0),(zx_ HB hw479_1),(zx_ HB hw479_2)⟩ (fun hHeld => ?_)
         clear hK K
         refine norm_ (a' := ?_) ?_ ?_
         rotate_left
         ·show Act.put _ (some 37) _ = _
          simp only [Act.put,p1_,p2_,p3_,i64_w,i32_w]
          rfl
         refine zon 17 (N := some 38) HT_ (fun K hK => ?_)
         refine Kd.R_append_rows_step (Kd.int .u8) (w0 := w) w.heap.size (by rfl) (.tmp 30) (.tmp 37) 31 5 (.int .u8 0) 1 rfl Tryd.underlying31 info5 rfl (by decide) (by omega) v477 y476 t480 _ _ _ (fun k_ => some k_ ≠ (.slice Ao22 t480.length co22 : Value).ownBlock) (fun _ => False) rfl rfl ?aO ?aR (fun _ _ h => h) (fun _ h => h.elim) ?aF ?aB ?aS ?aL ?_
         (case aR => repeat (first | exact (Kd.R_reads' HO482.out).2.2 | (with_reducible refine Kd.C_alloc ?_ _) | (with_reducible refine Kd.C_drewN ?_ _) | (with_reducible refine Kd.C_drew ?_)))
         (case aB => exact (zl_ HB))
         (case aF => exact (fun k_ hk => Kd.fresh' (Kd.R_lt (zr HO482)) k_ hk))
         (case aO => exact (by (with_reducible repeat (first | apply r1_ | apply r2_ | apply r3_));exact Kd.R_mono HO478.out (fun _ hk => hk.2)))
         (case aS => exact (below_size (zl_ HB)))
         (case aL => have := LMc15.out;omega)
         intro v484 w21 ho hb hg hat
         rw [← Ny483.out] at ho
         replace BK468 := am_ (blk_grown (g := gb468) (o := .cells #[.bool false,.int .i64 a0_1,.int .i64 a0_2,.int .i64 a0_3,.int .i64 a0_4,.string a0_5,.slice (some ad475) l0_6.length c0_6] 144 (0,0)) (zk BK468) hg (Kd.R_ne HO478.out BK468.out (by decide)))
         replace HO482 := am_ (Kd.R_after (ok := (fun _ => True)) (zr HO482) hg hat)
         replace HB := am_ (hb)
         have HO485 := am_ (ho)
         clear HO478
         clear ho hb hg hat
         refine hK.out _ _ ⟨(blk_cell BK468.out 0).trans rfl,(blk_cell BK468.out 1).trans rfl,(blk_cell BK468.out 2).trans rfl,(blk_cell BK468.out 3).trans rfl,(blk_cell BK468.out 4).trans rfl,(blk_cell BK468.out 5).trans rfl,(blk_cell BK468.out 6).trans rfl,(zx_ HB hw475_0),(zx_ HB hw475_1),(zx_ HB hw475_2),(zx_ HB hw479_0),(zx_ HB hw479_1),(zx_ HB hw479_2)⟩ (fun hHeld => ?_)
         clear hK K
         refine norm_ (a' := ?_) ?_ ?_
         rotate_left
         ·show Act.put _ (some 38) _ = _
          simp only [Act.put,p1_,p2_,p3_,i64_w,i32_w]
          rfl
         refine zpu 18 (N := some 3) HT_ ?_
         refine done_ (done_of HT_.out (by kernel_rfl)) ?_
         obtain ⟨hcz23_0,hcz23_1,hcz23_2,hcz23_3,hcz23_4,hcz23_5,hcz23_6,hfz23_0,hfz23_1,hfz23_2,hfz23_3,hfz23_4,hfz23_5,hfz23_6⟩ := zc7 BK468
         have p486 : 0 ≤ (x4_1 : Int) := zo_
         have q486 : x4_1 < (l0_6.length : Int) := zo_
         obtain ⟨ad486,e486,hx486_0,hx486_1,hx486_2⟩ := at_T182 HR0_6.out x4_1 p486 q486
         obtain rfl : ad475 = ad486 := (by injection e486)
         replace hx486_0 := zx_ HB hx486_0
         replace hx486_1 := zx_ HB hx486_1
         replace hx486_2 := zx_ HB hx486_2
         replace p486 := eq_true p486
         replace q486 := eq_true q486
         try go_wp2_with (first | (at_builtin;refine Kd.R_append_str (Kd.int .u8) rfl (w0 := w) w.heap.size rfl (.tmp 39) _ 31 9 5 rfl Tryd.underlying31 Tryd.underlying9 info5 v484 y483 ((rd_T182 l0_6 x4_1).f2) (fun k_ => some k_ ≠ (.slice Ao22 t480.length co22 : Value).ownBlock) rfl rfl ?aO ?aF ?aB ?aS ?aL ?_;(case aB => exact (zl_ HB));(case aF => exact (fun k_ hk => Kd.fresh' (Kd.R_lt (zr HO482)) k_ hk));(case aO => exact (zr HO485));(case aS => exact (below_size (zl_ HB)));(case aL => have := LMc16.out;omega);intro v488 w24 ho hb hg hat;rw [← Ny487.out] at ho;replace BK468 := am_ (blk_grown (g := gb468) (o := .cells #[.bool false,.int .i64 a0_1,.int .i64 a0_2,.int .i64 a0_3,.int .i64 a0_4,.string a0_5,.slice (some ad475) l0_6.length c0_6] 144 (0,0)) (zk BK468) hg (Kd.R_ne HO485.out BK468.out (by decide)));replace HB := am_ (hb);have HO489 := am_ (ho);clear HO485;clear ho hb hg hat))
         go_roundg k1
         case measure => have := HK1.out;omega
         case rel => exact ⟨(y487),(wrap64 (x4_1 + 1)),(by first | rfl | (simp;done) | (simp [*];done)),H',⟨by have := HK1.out;omega⟩,⟨by (with_reducible repeat (first | apply r1_ | apply r2_ | apply r3_));exact Kd.R_mono HO489.out (fun _ hk => trivial)⟩,⟨by (with_reducible repeat (first | apply k1_ | apply k2_ | apply k3_));exact BK468.out⟩,⟨zl_ HB⟩⟩
        ·rw [if_neg c16] at H
         exact absurd H (by simp)
       ·rw [if_neg c15] at H
        exact absurd H (by simp)
      ·rw [if_neg c13] at H
       exact absurd H (by simp)
     ·rw [if_neg c12] at H
      exact absurd H (by simp)
    ·rw [if_neg c11] at H
     have c11b0 : decide (x4_1 < (l0_6.length : Int)) = false := decide_eq_false c11
     clear c11
     replace H := Option.bind_eq_some_iff.mp H
     obtain ⟨t490,A250,H⟩ := H
     try dsimp only at H
     have A25 := am_ A250
     clear A250
     by_cases c26 : x3_1.length + t490.length < 140737488355328
     ·rw [if_pos c26] at H
      have LMc26 := am_ c26
      clear c26
      obtain ⟨y493,hy493⟩ : ∃ y_ : List Int,y_ = (x3_1 ++ t490) := ⟨_,rfl⟩
      replace H : (some y493) = some r := by first | (rw [hy493];with_reducible exact H) | (have H2_ := (Option.bind_some _ _).symm.trans H;rw [hy493];with_reducible exact H2_) | (have H2_ := (Option.bind_some _ _).symm.trans H;with_reducible exact H2_) | with_reducible exact H | (rw [hy493];exact H) | exact H
      have Ny493 := am_ hy493
      clear hy493
      obtain rfl := Option.some.inj H
      obtain ⟨hcz27_0,hcz27_1,hcz27_2,hcz27_3,hcz27_4,hcz27_5,hcz27_6,hfz27_0,hfz27_1,hfz27_2,hfz27_3,hfz27_4,hfz27_5,hfz27_6⟩ := zc7 BK468
      go_wp2_with (first | ((with_reducible refine gate_callee (f := 173) rfl ?_);refine zgl (some 50) Tryd.func173 #[.agg #[.int .i64 a0_1,.int .i64 a0_2,.int .i64 a0_3,.int .i64 a0_4,.string a0_5]] ?_;(with_reducible refine (spec_l02Request.calls k1 a0_1 a0_2 a0_3 a0_4 a0_5 t490 _ A25.out).mono ?_);rintro e w28 ⟨v491,rfl,ho0,hb⟩;refine ⟨_,rfl,?_⟩;have HO492 := am_ (Kd.R_lower (Kd.R_new' ho0 (Kd.R_lt (zr HO_3))) (below_size (zl_ HB)));replace HO_3 := am_ (Kd.R_elder' (zr HO_3) (Kd.R_base ho0) hb);replace HB := zs_ HB hb;(try clear hb);(try clear hb2);(try clear hk);(try clear hi);(try clear ho0);obtain ⟨Ao30,co30,eo30⟩ := Kd.R_slice HO492.out;subst eo30) | ((with_reducible refine gate_builtin (b := .append) (xs := #[.tmp 47,.tmp 50]) rfl ?_);at_builtin;refine Kd.R_append_rows (Kd.int .u8) (w0 := w) w.heap.size rfl (.tmp 47) (.tmp 50) 31 5 (.int .u8 0) 1 rfl Tryd.underlying31 info5 rfl (by decide) (by omega) u3 x3_1 t490 _ _ _ (fun k_ => some k_ ≠ (.slice Ao30 t490.length co30 : Value).ownBlock) (fun _ => False) rfl rfl ?aO ?aR (fun _ _ h => h) (fun _ h => h.elim) ?aF ?aB ?aS ?aL ?_;(case aR => repeat (first | exact (Kd.R_reads' HO492.out).2.2 | (with_reducible refine Kd.C_alloc ?_ _) | (with_reducible refine Kd.C_drewN ?_ _) | (with_reducible refine Kd.C_drew ?_)));(case aB => exact (zl_ HB));(case aF => exact (fun k_ hk => Kd.fresh' (Kd.R_lt (zr HO492)) k_ hk));(case aO => exact (by (with_reducible repeat (first | apply r1_ | apply r2_ | apply r3_));exact Kd.R_mono HO_3.out (fun _ hk => hk.2)));(case aS => exact (below_size (zl_ HB)));(case aL => have := LMc26.out;omega);intro v494 w29 ho hb hg hat;rw [← Ny493.out] at ho;replace HB := am_ (hb);have HO495 := am_ (ho);clear HO_3;clear ho hb hg hat))
      go_ret
      exact ⟨_,zt_,by (with_reducible repeat (first | apply r1_ | apply r2_ | apply r3_));exact Kd.R_mono HO495.out (fun _ hk => trivial),zl_ HB⟩
     ·rw [if_neg c26] at H
      exact absurd H (by simp)
def spec_l02List.T5 : Bool × List (List Nat × List Nat) := (true,[([],[]),([],[]),([],[]),([1,2],[1,2]),([3],[3]),([4],[4]),([5],[5]),([0,6,6],[0,6]),([],[]),([],[]),([8,9],[8,9]),([10],[10]),([7,11,7],[7,11]),([12,12,0,1,2,3,4,5,6,7,8,9,10,11,12],[0,12])])
def spec_l02List.B5 : List Nat := [0,0,0,6,14,30,62,127,0,0,768,1792,4095,8191]
theorem spec_l02List.tab5 : rtab .any (opsOf Tryd.f126 5) = spec_l02List.T5 := by kernel_rfl
theorem spec_l02List.bits5 : waitsOk spec_l02List.T5.2 spec_l02List.B5 = true := by kernel_rfl
set_option maxHeartbeats 8000000 in
set_option maxRecDepth 100000 in
theorem spec_l02List.calls (k : Nat) (A0 : Option Addr) (c0 : Nat) (l0 : List ByteArray) (r : List Int) (w : World) (hr0 : Kd.C Kd.string w A0 l0.length l0) (hc0 : l0.length ≤ c0) (h : spec_l02List.f k l0 = some r) :
  Calls Tryd.prog 126 #[.slice A0 l0.length c0] w fun e w' => ∃ v0_ : Value,e = .returned (v0_) ∧ Kd.R (Kd.int .u8) 5 w' w.heap.size (fun _ => True) v0_ r ∧ Below w.heap.size w w' := by
 have HR0 := am_ hr0
 have HC0 := am_ hc0
 clear hr0 hc0
 have HB := am_ (Below.refl w.heap.size w)
 have H : (spec_l02List.l0 k l0 (([((l0.length : Int)) % 256] : List Int)) 0) = some r := h
 clear h
 obtain ⟨y557,hy557⟩ : ∃ y_ : List Int,y_ = (([((l0.length : Int)) % 256] : List Int)) := ⟨_,rfl⟩
 replace H : (spec_l02List.l0 k l0 y557 0) = some r := by first | (rw [hy557];with_reducible exact H) | (have H2_ := (Option.bind_some _ _).symm.trans H;rw [hy557];with_reducible exact H2_) | (have H2_ := (Option.bind_some _ _).symm.trans H;with_reducible exact H2_) | with_reducible exact H | (rw [hy557];exact H) | exact H
 have Ny557 := am_ hy557
 clear hy557
 have H' := am_ H
 clear H
 go_enter Tryd.func126,Tryd.ntmps126
 go_wp2_with (first | ((with_reducible refine gate_dst (N := 8) rfl ?_);refine Kd.R_lit (Kd.int .u8) _ 5 ?hg (N := 8) ?hd (xs := ([((l0.length : Int)) % 256] : List Int)) (inner := [.int .u8 (((l0.length : Int)) % 256)]) (ok := fun _ => True) (okp := fun _ => True) ?hr ?hp (fun _ hk => hk) trivial (Below.refl _ _) (Nat.le_refl _) (by simp) ?_;(case hd => rfl);(case hg => rfl);(case hr => first | (go_simp;done) | (go_simp;rfl));(case hp => exact (Reps.one (show Kd.M (Kd.int .u8) _ _ _ (((l0.length : Int)) % 256) [.int .u8 (((l0.length : Int)) % 256)] from rfl) (Reps.none _ _)));intro v558 w2 ho3 hb hg_ hnew_;clear hg_ hnew_;(first | rw [← Ny557.out] at ho3 | (simp only [Int.reduceToNat] at ho3;rw [← Ny557.out] at ho3));have HO559 := am_ (Kd.R_lower ho3 (below_size (zl_ HB)));replace HB := zs_ HB hb;clear hb ho3))
 go_loopg [3,4] k (fun kq v3 v4 w' => ∃ (x3_1 : List Int) (x4_1 : Int),v4 = .int .i64 x4_1 ∧ Aside0 (spec_l02List.l0 kq l0 x3_1 x4_1 = some r) ∧ Aside0 (kq ≤ k) ∧ Aside0 (Kd.R (Kd.int .u8) 5 w' w.heap.size (fun _ => True) v3 x3_1) ∧ Aside0 (Below w.heap.size w w'))
 case atStart => exact ⟨(y557),(0),(by first | rfl | (simp;done) | (simp [*];done)),H',⟨Nat.le_refl _⟩,⟨zr HO559⟩,⟨zl_ HB⟩⟩
 case round =>
  clear H'
  try clear c1
  try clear p2
  obtain ⟨x3_1,x4_1,rfl,HA,HK1,HO_3,HB⟩ := hrel
  cases gk with
  | zero => exact absurd HA.out (by simp [spec_l02List.l0])
  | succ k1 =>
   have H := HA.out
   clear HA
   simp only [spec_l02List.l0] at H
   by_cases c4 : x4_1 < (l0.length : Int)
   ·rw [if_pos c4] at H
    have c4b0 : decide (x4_1 < (l0.length : Int)) = true := decide_eq_true c4
    clear c4
    by_cases c5 : 0 ≤ x4_1
    ·rw [if_pos c5] at H
     have c5b0 : decide (0 ≤ x4_1) = true := decide_eq_true c5
     clear c5
     replace H := Option.bind_eq_some_iff.mp H
     obtain ⟨t561,A60,H⟩ := H
     try dsimp only at H
     have A6 := am_ A60
     clear A60
     by_cases c7 : x3_1.length + t561.length < 140737488355328
     ·rw [if_pos c7] at H
      have LMc7 := am_ c7
      clear c7
      obtain ⟨y564,hy564⟩ : ∃ y_ : List Int,y_ = (x3_1 ++ t561) := ⟨_,rfl⟩
      replace H : (if y564.length + (rdOf ByteArray.empty l0 x4_1).size < 140737488355328 then (spec_l02List.l0 k1 l0 (y564 ++ bytesOf (rdOf ByteArray.empty l0 x4_1)) (wrap64 (x4_1 + 1))) else (none)) = some r := by first | (rw [hy564];with_reducible exact H) | (have H2_ := (Option.bind_some _ _).symm.trans H;rw [hy564];with_reducible exact H2_) | (have H2_ := (Option.bind_some _ _).symm.trans H;with_reducible exact H2_) | with_reducible exact H | (rw [hy564];exact H) | exact H
      have Ny564 := am_ hy564
      clear hy564
      by_cases c8 : y564.length + (rdOf ByteArray.empty l0 x4_1).size < 140737488355328
      ·rw [if_pos c8] at H
       have LMc8 := am_ c8
       clear c8
       obtain ⟨y568,hy568⟩ : ∃ y_ : List Int,y_ = (y564 ++ bytesOf (rdOf ByteArray.empty l0 x4_1)) := ⟨_,rfl⟩
       replace H : (spec_l02List.l0 k1 l0 y568 (wrap64 (x4_1 + 1))) = some r := by first | (rw [hy568];with_reducible exact H) | (have H2_ := (Option.bind_some _ _).symm.trans H;rw [hy568];with_reducible exact H2_) | (have H2_ := (Option.bind_some _ _).symm.trans H;with_reducible exact H2_) | with_reducible exact H | (rw [hy568];exact H) | exact H
       have Ny568 := am_ hy568
       clear hy568
       have H' := am_ H
       clear H
       try go_wp2
       replace HO_3 := am_ (Kd.R_drew HO_3.out)
       replace HB := am_ (below_drew1 HB.out)
       have p560 : 0 ≤ (x4_1 : Int) := zo_
       have q560 : x4_1 < (l0.length : Int) := zo_
       obtain ⟨ad560,e560,hx560_0⟩ := Kd.at_string HR0.out x4_1 p560 q560
       have hw560_0 := hx560_0
       cases e560
       replace hx560_0 := zx_ HB hx560_0
       replace p560 := eq_true p560
       replace q560 := eq_true q560
       have p567 : 0 ≤ (x4_1 : Int) := zo_
       have q567 : x4_1 < (l0.length : Int) := zo_
       obtain ⟨ad567,e567,hx567_0⟩ := Kd.at_string HR0.out x4_1 p567 q567
       have hw567_0 := hx567_0
       obtain rfl : ad560 = ad567 := (by injection e567)
       replace hx567_0 := zx_ HB hx567_0
       replace p567 := eq_true p567
       replace q567 := eq_true q567
       refine start_ (n := 14) (S := fun w' => w'.cell? (ad560.add (x4_1).toNat) = some (.string (rdOf ByteArray.empty l0 x4_1)) ∧ w'.cell? (ad560.add (x4_1).toNat) = some (.string (rdOf ByteArray.empty l0 x4_1))) (ds := []) #[false,false,false,false,false,false,false,false,false,false,false,false,false,false] (by kernel_rfl) rfl rfl ⟨(zx_ HB hw560_0),(zx_ HB hw567_0)⟩ (fun hHeld => ?_);refine with_tabW spec_l02List.tab5 spec_l02List.bits5 (fun HT_ HW_ => ?_)
       generalize wr.drew = w9 at HO_3 HB hx560_0 hx567_0 hHeld ⊢
       refine zpu 0 (N := some 15) HT_ ?_
       refine zpu 1 (N := some 16) HT_ ?_
       refine zpu 2 (N := some 17) HT_ ?_
       refine zpu 3 (N := some 18) HT_ ?_
       refine zpu 8 (N := some 23) HT_ ?_
       refine zpu 9 (N := some 24) HT_ ?_
       refine zpu 10 (N := some 25) HT_ ?_
       refine ztk 4 (N := some 19) HT_ HW_ hHeld ?_
       refine zpu 5 (N := some 20) HT_ ?_
       refine ztk 11 (N := some 26) HT_ HW_ hHeld ?_
       refine zon 6 (N := some 21) HT_ (fun K hK => ?_)
       refine zgo Tryd.func172 #[.int .i64 ((rdOf ByteArray.empty l0 x4_1).size : Int),.int .i64 2] ?_
       with_reducible refine (spec_l02Number.calls k1 ((rdOf ByteArray.empty l0 x4_1).size : Int) 2 t561 _ A6.out).mono ?_
       rintro e w10 ⟨v562,rfl,ho0,hb⟩
       refine ⟨_,rfl,?_⟩
       have HO563 := am_ (Kd.R_lower (Kd.R_new' ho0 (Kd.R_lt (zr HO_3))) (below_size (zl_ HB)))
       replace HO_3 := am_ (Kd.R_elder' (zr HO_3) (Kd.R_base ho0) hb)
       replace HB := zs_ HB hb
       (try clear hb)
       (try clear hb2)
       (try clear hk)
       (try clear hi)
       (try clear ho0)
       obtain ⟨Ao12,co12,eo12⟩ := Kd.R_slice HO563.out
       (first | subst eo12 | (injection eo12 with f1_ f2_ f3_;have f4_ := f1_.symm;have f5_ := f3_.symm;clear f1_ f2_ f3_;subst f4_;subst f5_))
       refine hK.out _ _ ⟨(zx_ HB hw560_0),(zx_ HB hw567_0)⟩ (fun hHeld => ?_)
       clear hK K
       refine norm_ (a' := ?_) ?_ ?_
       rotate_left
       ·show Act.put _ (some 21) _ = _
        simp only [Act.put,p1_,p2_,p3_,i64_w,i32_w]
        rfl
       refine zon 7 (N := some 22) HT_ (fun K hK => ?_)
       refine Kd.R_append_rows_step (Kd.int .u8) (w0 := w) w.heap.size (by rfl) (.tmp 15) (.tmp 21) 31 5 (.int .u8 0) 1 rfl Tryd.underlying31 info5 rfl (by decide) (by omega) u3 x3_1 t561 _ _ _ (fun k_ => some k_ ≠ (.slice Ao12 t561.length co12 : Value).ownBlock) (fun _ => False) rfl rfl ?aO ?aR (fun _ _ h => h) (fun _ h => h.elim) ?aF ?aB ?aS ?aL ?_
       (case aR => repeat (first | exact (Kd.R_reads' HO563.out).2.2 | (with_reducible refine Kd.C_alloc ?_ _) | (with_reducible refine Kd.C_drewN ?_ _) | (with_reducible refine Kd.C_drew ?_)))
       (case aB => exact (zl_ HB))
       (case aF => exact (fun k_ hk => Kd.fresh' (Kd.R_lt (zr HO563)) k_ hk))
       (case aO => exact (by (with_reducible repeat (first | apply r1_ | apply r2_ | apply r3_));exact Kd.R_mono HO_3.out (fun _ hk => hk.2)))
       (case aS => exact (below_size (zl_ HB)))
       (case aL => have := LMc7.out;omega)
       intro v565 w11 ho hb hg hat
       rw [← Ny564.out] at ho
       replace HO563 := am_ (Kd.R_after (ok := (fun _ => True)) (zr HO563) hg hat)
       replace HB := am_ (hb)
       have HO566 := am_ (ho)
       clear HO_3
       clear ho hb hg hat
       refine hK.out _ _ ⟨(zx_ HB hw560_0),(zx_ HB hw567_0)⟩ (fun hHeld => ?_)
       clear hK K
       refine norm_ (a' := ?_) ?_ ?_
       rotate_left
       ·show Act.put _ (some 22) _ = _
        simp only [Act.put,p1_,p2_,p3_,i64_w,i32_w]
        rfl
       refine zon 12 (N := some 27) HT_ (fun K hK => ?_)
       refine Kd.R_append_str_step (Kd.int .u8) rfl (w0 := w) w.heap.size (by rfl) (.tmp 22) _ 31 9 5 rfl Tryd.underlying31 Tryd.underlying9 info5 v565 y564 (rdOf ByteArray.empty l0 x4_1) (fun k_ => some k_ ≠ (.slice Ao12 t561.length co12 : Value).ownBlock) rfl rfl ?aO ?aF ?aB ?aS ?aL ?_
       (case aB => exact (zl_ HB))
       (case aF => exact (fun k_ hk => Kd.fresh' (Kd.R_lt (zr HO563)) k_ hk))
       (case aO => exact (zr HO566))
       (case aS => exact (below_size (zl_ HB)))
       (case aL => have := LMc8.out;omega)
       intro v569 w13 ho hb hg hat
       rw [← Ny568.out] at ho
       replace HB := am_ (hb)
       have HO570 := am_ (ho)
       clear HO566
       clear ho hb hg hat
       refine hK.out _ _ ⟨(zx_ HB hw560_0),(zx_ HB hw567_0)⟩ (fun hHeld => ?_)
       clear hK K
       refine norm_ (a' := ?_) ?_ ?_
       rotate_left
       ·show Act.put _ (some 27) _ = _
        simp only [Act.put,p1_,p2_,p3_,i64_w,i32_w]
        rfl
       refine zpu 13 (N := some 3) HT_ ?_
       refine done_ (done_of HT_.out (by kernel_rfl)) ?_
       try go_wp2
       go_roundg k1
       case measure => have := HK1.out;omega
       case rel => exact ⟨(y568),(wrap64 (x4_1 + 1)),(by first | rfl | (simp;done) | (simp [*];done)),H',⟨by have := HK1.out;omega⟩,⟨by (with_reducible repeat (first | apply r1_ | apply r2_ | apply r3_));exact Kd.R_mono HO570.out (fun _ hk => trivial)⟩,⟨zl_ HB⟩⟩
      ·rw [if_neg c8] at H
       exact absurd H (by simp)
     ·rw [if_neg c7] at H
      exact absurd H (by simp)
    ·rw [if_neg c5] at H
     exact absurd H (by simp)
   ·rw [if_neg c4] at H
    have c4b0 : decide (x4_1 < (l0.length : Int)) = false := decide_eq_false c4
    clear c4
    obtain rfl := Option.some.inj H
    go_wp2
    go_ret
    exact ⟨_,zt_,zr HO_3,zl_ HB⟩
set_option maxHeartbeats 8000000 in
set_option maxRecDepth 100000 in
theorem spec_l00Src_message.calls (k : Nat) (g : Nat) (s0_0 : List Int) (s0_1 : Int) (s0_2 : Int) (r1 : Int) (r2 : Int) (r3 : Int) (r4 : Int) (r5 : ByteArray) (r6 : ByteArray) (r7 : ByteArray) (r8 : Int) (r9 : Int) (w0 w : World) (hI : IsS138 w0 w g s0_0 s0_1 s0_2) (hB : Below w0.heap.size w0 w) (h : spec_l00Src_message.f k s0_0 s0_1 s0_2 = some (r1,r2,r3,r4,r5,r6,r7,r8,r9)) :
  Calls Tryd.prog 63 #[.pointer (some ⟨g,0,none⟩)] w fun e w' => e = .returned (.agg #[.int .i64 r1,.int .i64 r2,.int .i64 r3,.int .i64 r4,.string r5,.string r6,.string r7]) ∧ IsS138 w0 w' g s0_0 r8 r9 ∧ Below w0.heap.size w0 w' ∧ KeepBut w w' g none := by
 have hu33 := Tryd.underlying33
 have HI0 := am_ hI
 have HK := am_ (KeepBut.refl w g none)
 have HL := am_ hB.size
 clear hI
 have HW0 := am_ hB.size
 have HB := am_ hB
 clear hB
 have H : ((spec_l00Src_next.f s0_0 s0_1 s0_2 5).bind fun bt572 => ((spec_l00Src_next.f s0_0 bt572.2.1 bt572.2.2 4).bind fun bt575 => ((spec_l00Src_next.f s0_0 bt575.2.1 bt575.2.2 4).bind fun bt578 => ((spec_l00Src_next.f s0_0 bt578.2.1 bt578.2.2 9).bind fun bt581 => ((spec_l01Hash.f k (([(bt581.1) % 256] : List Int))).bind fun t587 => (if 0 ≤ 8 then (if 8 ≤ (t587.size : Int) then (if (wrap64 (1 + bt572.1)) ≤ 3 then ((spec_l00Src_next.f s0_0 bt581.2.1 bt581.2.2 4).bind fun bt589 => ((spec_l00Src_next.f s0_0 bt589.2.1 bt589.2.2 4).bind fun bt592 => ((spec_l01Hash.f k (([(bt592.1) % 256] : List Int))).bind fun t598 => (spec_l00Src_message.j0 k s0_0 bt592.2.1 bt592.2.2 (wrap64 (1 + bt572.1)) bt575.1 (wrap64 (1 + bt589.1)) bt578.1 t598 (⟨#[]⟩ : ByteArray) (t587.extract 0 8))))) else (spec_l00Src_message.j0 k s0_0 bt581.2.1 bt581.2.2 (wrap64 (1 + bt572.1)) bt575.1 0 bt578.1 (⟨#[]⟩ : ByteArray) (⟨#[]⟩ : ByteArray) (t587.extract 0 8))) else (none)) else (none))))))) = some (r1,r2,r3,r4,r5,r6,r7,r8,r9) := h
 clear h
 replace H := Option.bind_eq_some_iff.mp H
 obtain ⟨⟨t572,t573,t574⟩,A20,H⟩ := H
 try dsimp only at H
 have A2 := am_ A20
 clear A20
 replace H := Option.bind_eq_some_iff.mp H
 obtain ⟨⟨t575,t576,t577⟩,A30,H⟩ := H
 try dsimp only at H
 have A3 := am_ A30
 clear A30
 replace H := Option.bind_eq_some_iff.mp H
 obtain ⟨⟨t578,t579,t580⟩,A40,H⟩ := H
 try dsimp only at H
 have A4 := am_ A40
 clear A40
 replace H := Option.bind_eq_some_iff.mp H
 obtain ⟨⟨t581,t582,t583⟩,A50,H⟩ := H
 try dsimp only at H
 have A5 := am_ A50
 clear A50
 obtain ⟨y584,hy584⟩ : ∃ y_ : List Int,y_ = (([(t581) % 256] : List Int)) := ⟨_,rfl⟩
 replace H : ((spec_l01Hash.f k y584).bind fun t587 => (if 0 ≤ 8 then (if 8 ≤ (t587.size : Int) then (if (wrap64 (1 + t572)) ≤ 3 then ((spec_l00Src_next.f s0_0 t582 t583 4).bind fun bt589 => ((spec_l00Src_next.f s0_0 bt589.2.1 bt589.2.2 4).bind fun bt592 => ((spec_l01Hash.f k (([(bt592.1) % 256] : List Int))).bind fun t598 => (spec_l00Src_message.j0 k s0_0 bt592.2.1 bt592.2.2 (wrap64 (1 + t572)) t575 (wrap64 (1 + bt589.1)) t578 t598 (⟨#[]⟩ : ByteArray) (t587.extract 0 8))))) else (spec_l00Src_message.j0 k s0_0 t582 t583 (wrap64 (1 + t572)) t575 0 t578 (⟨#[]⟩ : ByteArray) (⟨#[]⟩ : ByteArray) (t587.extract 0 8))) else (none)) else (none))) = some (r1,r2,r3,r4,r5,r6,r7,r8,r9) := by first | (rw [hy584];with_reducible exact H) | (have H2_ := (Option.bind_some _ _).symm.trans H;rw [hy584];with_reducible exact H2_) | (have H2_ := (Option.bind_some _ _).symm.trans H;with_reducible exact H2_) | with_reducible exact H | (rw [hy584];exact H) | exact H
 have Ny584 := am_ hy584
 clear hy584
 replace H := Option.bind_eq_some_iff.mp H
 obtain ⟨t587,A60,H⟩ := H
 try dsimp only at H
 have A6 := am_ A60
 clear A60
 by_cases c7 : 0 ≤ 8
 ·rw [if_pos c7] at H
  have c7b0 := eq_true c7
  have c7b1 : decide (0 ≤ 8) = true := decide_eq_true c7
  clear c7
  by_cases c8 : 8 ≤ (t587.size : Int)
  ·rw [if_pos c8] at H
   have c8b0 := eq_true c8
   have c8b1 : decide (8 ≤ (t587.size : Int)) = true := decide_eq_true c8
   clear c8
   have HC9 := am_ H
   clear H
   go_enter Tryd.func63,Tryd.ntmps63
   go_upto_if 20 with (first | ((with_reducible refine gate_dst (N := 2) rfl ?_);refine zbx (N := 2) (cs := #[.int .i64 0,.int .i64 0,.int .i64 0,.int .i64 0,.string ⟨#[]⟩,.string ⟨#[]⟩,.string ⟨#[]⟩]) (t := 33) ?_;intro gb571 hg w10 hbox hb;replace HB := zs_ HB hb;have BK571 := am_ (hbox);have GW571 := am_ ((by rw [hg];exact (keep_size (w := w) (g := g) (row := none) (zh_ HK)) : w.heap.size ≤ gb571));have GE571 := am_ ((Nat.le_trans HW0.out (by rw [hg];exact (keep_size (w := w) (g := g) (row := none) (zh_ HK)) : w.heap.size ≤ gb571) : w0.heap.size ≤ gb571));replace HK := am_ (KeepBut.trans (zh_ HK) (KeepBut.of_below hb g none) (.inl rfl));have NB0_571 := am_ ((by rw [hg];exact Nat.ne_of_lt (IsS138.lt (show IsS138 w0 _ g s0_0 s0_1 s0_2 from (zi138 HI0))) : g ≠ gb571));have NB571_0 := am_ ((by rw [hg];exact Nat.ne_of_gt (IsS138.lt (show IsS138 w0 _ g s0_0 s0_1 s0_2 from (zi138 HI0))) : gb571 ≠ g));replace HI0 := am_ (IsS138.below (zi138 HI0) hb);clear hb hbox hg) | ((with_reducible refine gate_callee (f := 122) rfl ?_);refine zgl (some 5) Tryd.func122 #[.pointer (some ⟨g,0,none⟩),.int .i64 5] ?_;(with_reducible refine (spec_l00Src_next.calls g s0_0 s0_1 s0_2 5 t572 t573 t574 w0 _ ?side1 ?side2 A2.out).mono ?_);(case side1 => exact zi138 HI0);(case side2 => exact zl_ HB);rintro e w11 ⟨rfl,hi,hb,hk⟩;refine ⟨_,rfl,?_⟩;replace BK571 := zkb hk BK571 NB571_0;replace HK := am_ (KeepBut.trans (zh_ HK) hk (.inl rfl));replace HB := am_ (hb);replace HI0 := am_ (hi);(try clear hb);(try clear hb2);(try clear hk);(try clear hi)) | ((with_reducible refine gate_callee (f := 122) rfl ?_);refine zgl (some 8) Tryd.func122 #[.pointer (some ⟨g,0,none⟩),.int .i64 4] ?_;(with_reducible refine (spec_l00Src_next.calls g s0_0 t573 t574 4 t575 t576 t577 w0 _ ?side1 ?side2 A3.out).mono ?_);(case side1 => exact zi138 HI0);(case side2 => exact zl_ HB);rintro e w12 ⟨rfl,hi,hb,hk⟩;refine ⟨_,rfl,?_⟩;replace BK571 := zkb hk BK571 NB571_0;replace HK := am_ (KeepBut.trans (zh_ HK) hk (.inl rfl));replace HB := am_ (hb);replace HI0 := am_ (hi);(try clear hb);(try clear hb2);(try clear hk);(try clear hi)) | ((with_reducible refine gate_callee (f := 122) rfl ?_);refine zgl (some 10) Tryd.func122 #[.pointer (some ⟨g,0,none⟩),.int .i64 4] ?_;(with_reducible refine (spec_l00Src_next.calls g s0_0 t576 t577 4 t578 t579 t580 w0 _ ?side1 ?side2 A4.out).mono ?_);(case side1 => exact zi138 HI0);(case side2 => exact zl_ HB);rintro e w13 ⟨rfl,hi,hb,hk⟩;refine ⟨_,rfl,?_⟩;replace BK571 := zkb hk BK571 NB571_0;replace HK := am_ (KeepBut.trans (zh_ HK) hk (.inl rfl));replace HB := am_ (hb);replace HI0 := am_ (hi);(try clear hb);(try clear hb2);(try clear hk);(try clear hi)) | ((with_reducible refine gate_callee (f := 122) rfl ?_);refine zgl (some 12) Tryd.func122 #[.pointer (some ⟨g,0,none⟩),.int .i64 9] ?_;(with_reducible refine (spec_l00Src_next.calls g s0_0 t579 t580 9 t581 t582 t583 w0 _ ?side1 ?side2 A5.out).mono ?_);(case side1 => exact zi138 HI0);(case side2 => exact zl_ HB);rintro e w14 ⟨rfl,hi,hb,hk⟩;refine ⟨_,rfl,?_⟩;replace BK571 := zkb hk BK571 NB571_0;replace HK := am_ (KeepBut.trans (zh_ HK) hk (.inl rfl));replace HB := am_ (hb);replace HI0 := am_ (hi);(try clear hb);(try clear hb2);(try clear hk);(try clear hi)) | ((with_reducible refine gate_dst (N := 14) rfl ?_);refine Kd.R_lit (Kd.int .u8) _ 5 ?hg (N := 14) ?hd (xs := ([(t581) % 256] : List Int)) (inner := [.int .u8 ((t581) % 256)]) (ok := fun _ => True) (okp := fun _ => True) ?hr ?hp (fun _ hk => hk) trivial (Below.refl _ _) (Nat.le_refl _) (by simp) ?_;(case hd => rfl);(case hg => rfl);(case hr => first | (go_simp;done) | (go_simp;rfl));(case hp => exact (Reps.one (show Kd.M (Kd.int .u8) _ _ _ ((t581) % 256) [.int .u8 ((t581) % 256)] from rfl) (Reps.none _ _)));intro v585 w15 ho16 hb hg_ hnew_;clear hg_ hnew_;(first | rw [← Ny584.out] at ho16 | (simp only [Int.reduceToNat] at ho16;rw [← Ny584.out] at ho16));have HO586 := am_ (Kd.R_lower ho16 (keep_size (w := w) (g := g) (row := none) (zh_ HK)));replace HI0 := am_ (IsS138.below (zi138 HI0) hb);replace BK571 := zb BK571 hb;replace HK := am_ (KeepBut.trans (zh_ HK) (KeepBut.of_below hb g none) (.inl rfl));replace HB := zs_ HB hb;clear hb ho16;obtain ⟨Ao17,co17,eo17⟩ := Kd.R_slice HO586.out;subst eo17) | ((with_reducible refine gate_callee (f := 123) rfl ?_);refine zgl (some 15) Tryd.func123 #[.slice Ao17 y584.length co17] ?_;(with_reducible refine (spec_l01Hash.calls k _ _ y584 t587 _ ?side1 ?side2 A6.out).mono ?_);(case side1 => repeat (first | exact (Kd.R_reads' HO586.out).2.2 | (with_reducible refine Kd.C_alloc ?_ _) | (with_reducible refine Kd.C_drewN ?_ _) | (with_reducible refine Kd.C_drew ?_)));(case side2 => exact (Kd.R_reads' HO586.out).2.1);rintro e w18 ⟨rfl,hb⟩;refine ⟨_,rfl,?_⟩;replace HO586 := zrb HO586 hb;replace HI0 := am_ (IsS138.below (zi138 HI0) hb);replace BK571 := zb BK571 hb;replace HK := am_ (KeepBut.trans (zh_ HK) (KeepBut.of_below hb g none) (.inl rfl));replace HB := zs_ HB hb;(try clear hb);(try clear hb2);(try clear hk);(try clear hi)) | ((with_reducible refine gate_dst (N := 3) rfl ?_);refine zbx (N := 3) (cs := #[.int .i64 0,.int .i64 0,.int .i64 0,.int .i64 0,.string ⟨#[]⟩,.string ⟨#[]⟩,.string ⟨#[]⟩]) (t := 33) ?_;intro gb588 hg w19 hbox hb;replace HO586 := zrb HO586 hb;replace HB := zs_ HB hb;have BK588 := am_ (hbox);have GW588 := am_ ((by rw [hg];exact (keep_size (w := w) (g := g) (row := none) (zh_ HK)) : w.heap.size ≤ gb588));have GE588 := am_ ((Nat.le_trans HW0.out (by rw [hg];exact (keep_size (w := w) (g := g) (row := none) (zh_ HK)) : w.heap.size ≤ gb588) : w0.heap.size ≤ gb588));replace HK := am_ (KeepBut.trans (zh_ HK) (KeepBut.of_below hb g none) (.inl rfl));have NB571_588 := zl hg BK571;have NB588_571 := zg hg BK571;replace BK571 := zb BK571 hb;have NB0_588 := am_ ((by rw [hg];exact Nat.ne_of_lt (IsS138.lt (show IsS138 w0 _ g s0_0 t582 t583 from (zi138 HI0))) : g ≠ gb588));have NB588_0 := am_ ((by rw [hg];exact Nat.ne_of_gt (IsS138.lt (show IsS138 w0 _ g s0_0 t582 t583 from (zi138 HI0))) : gb588 ≠ g));replace HI0 := am_ (IsS138.below (zi138 HI0) hb);clear hb hbox hg;have hnb20 := NB588_571.out;have hnc20 := NB571_588.out;have hnb21 := NB588_0.out;have hnc21 := NB0_588.out;obtain ⟨hcz22_0,hcz22_1,hcz22_2,hcz22_3,hcz22_4,hcz22_5,hcz22_6,hfz22_0,hfz22_1,hfz22_2,hfz22_3,hfz22_4,hfz22_5,hfz22_6⟩ := zc7 BK588))
   (try simp only [Act.put,p1_,p2_,p3_])
   go_cut [] (fun wc => ∃ (kq : Nat) (x1001_8 : Int) (x1002_8 : Int) (x589002_8 : Int) (x589004_8 : ByteArray),Aside0 (spec_l00Src_message.j0 kq s0_0 x1001_8 x1002_8 (wrap64 (1 + t572)) t575 x589002_8 t578 x589004_8 (⟨#[]⟩ : ByteArray) (t587.extract 0 8) = some (r1,r2,r3,r4,r5,r6,r7,r8,r9)) ∧ Aside0 (kq ≤ k) ∧ Aside0 (wc.heap[gb571]? = some (.cells #[.int .i64 0,.int .i64 0,.int .i64 0,.int .i64 0,.string ⟨#[]⟩,.string ⟨#[]⟩,.string ⟨#[]⟩] 33 (0,0))) ∧ Aside0 (wc.heap[gb588]? = some (.cells #[.int .i64 (wrap64 (1 + t572)),.int .i64 t575,.int .i64 x589002_8,.int .i64 t578,.string x589004_8,.string ⟨#[]⟩,.string (t587.extract 0 8)] 33 (0,0))) ∧ Aside0 (IsS138 w0 wc g s0_0 x1001_8 x1002_8) ∧ Aside0 (KeepBut w wc g none) ∧ Aside0 (Below w0.heap.size w0 wc))
   case first =>
    have H := HC9.out
    clear HC9
    by_cases c23 : (wrap64 (1 + t572)) ≤ 3
    ·rw [if_pos c23] at H
     have c23b0 : decide ((wrap64 (1 + t572)) ≤ 3) = true := decide_eq_true c23
     clear c23
     (first | rw [c23b0] | (simp only [i64_w,i32_w];rw [c23b0]) | skip)
     replace H := Option.bind_eq_some_iff.mp H
     obtain ⟨⟨t589,t590,t591⟩,A240,H⟩ := H
     try dsimp only at H
     have A24 := am_ A240
     clear A240
     replace H := Option.bind_eq_some_iff.mp H
     obtain ⟨⟨t592,t593,t594⟩,A250,H⟩ := H
     try dsimp only at H
     have A25 := am_ A250
     clear A250
     obtain ⟨y595,hy595⟩ : ∃ y_ : List Int,y_ = (([(t592) % 256] : List Int)) := ⟨_,rfl⟩
     replace H : ((spec_l01Hash.f k y595).bind fun t598 => (spec_l00Src_message.j0 k s0_0 t593 t594 (wrap64 (1 + t572)) t575 (wrap64 (1 + t589)) t578 t598 (⟨#[]⟩ : ByteArray) (t587.extract 0 8))) = some (r1,r2,r3,r4,r5,r6,r7,r8,r9) := by first | (rw [hy595];with_reducible exact H) | (have H2_ := (Option.bind_some _ _).symm.trans H;rw [hy595];with_reducible exact H2_) | (have H2_ := (Option.bind_some _ _).symm.trans H;with_reducible exact H2_) | with_reducible exact H | (rw [hy595];exact H) | exact H
     have Ny595 := am_ hy595
     clear hy595
     replace H := Option.bind_eq_some_iff.mp H
     obtain ⟨t598,A260,H⟩ := H
     try dsimp only at H
     have A26 := am_ A260
     clear A260
     have H' := am_ H
     clear H
     go_wp2_with (first | ((with_reducible refine gate_callee (f := 122) rfl ?_);refine zgl (some 22) Tryd.func122 #[.pointer (some ⟨g,0,none⟩),.int .i64 4] ?_;(with_reducible refine (spec_l00Src_next.calls g s0_0 t582 t583 4 t589 t590 t591 w0 _ ?side1 ?side2 A24.out).mono ?_);(case side1 => exact zi138 HI0);(case side2 => exact zl_ HB);rintro e w27 ⟨rfl,hi,hb,hk⟩;refine ⟨_,rfl,?_⟩;replace BK571 := am_ (KeepBut.blk hk (g' := gb571) (o := .cells #[.int .i64 0,.int .i64 0,.int .i64 0,.int .i64 0,.string ⟨#[]⟩,.string ⟨#[]⟩,.string ⟨#[]⟩] 33 (0,0)) (zq BK571) NB571_0.out (by simp));replace HO586 := am_ (Kd.R_mono (Kd.R_keep (IsS138.apart (show IsS138 w0 _ g s0_0 t582 t583 from (zi138 HI0)) (by (with_reducible repeat (first | apply r1_ | apply r2_ | apply r3_));exact (Kd.R_mono (zrf (Kd.R_types HO586.out BK588.out (by decide))) (fun _ h_ => h_.1))) (by decide)) hk (fun _ h => h.2)) (fun _ h => h.1));replace BK588 := am_ (KeepBut.blk hk (g' := gb588) (o := .cells #[.int .i64 (wrap64 (1 + t572)),.int .i64 t575,.int .i64 0,.int .i64 t578,.string ⟨#[]⟩,.string ⟨#[]⟩,.string (t587.extract 0 8)] 33 (0,0)) (zq BK588) NB588_0.out (by simp));replace HK := am_ (KeepBut.trans (zh_ HK) hk (.inl rfl));replace HB := am_ (hb);replace HI0 := am_ (hi);(try clear hb);(try clear hb2);(try clear hk);(try clear hi);have hnb28 := NB588_571.out;have hnc28 := NB571_588.out;have hnb29 := NB588_0.out;have hnc29 := NB0_588.out;obtain ⟨hcz30_0,hcz30_1,hcz30_2,hcz30_3,hcz30_4,hcz30_5,hcz30_6,hfz30_0,hfz30_1,hfz30_2,hfz30_3,hfz30_4,hfz30_5,hfz30_6⟩ := zc7 BK588) | ((with_reducible refine gate_callee (f := 122) rfl ?_);refine zgl (some 26) Tryd.func122 #[.pointer (some ⟨g,0,none⟩),.int .i64 4] ?_;(with_reducible refine (spec_l00Src_next.calls g s0_0 t590 t591 4 t592 t593 t594 w0 _ ?side1 ?side2 A25.out).mono ?_);(case side1 => exact zi138 HI0);(case side2 => exact zl_ HB);rintro e w31 ⟨rfl,hi,hb,hk⟩;refine ⟨_,rfl,?_⟩;replace BK571 := am_ (KeepBut.blk hk (g' := gb571) (o := .cells #[.int .i64 0,.int .i64 0,.int .i64 0,.int .i64 0,.string ⟨#[]⟩,.string ⟨#[]⟩,.string ⟨#[]⟩] 33 (0,0)) (zq BK571) NB571_0.out (by simp));replace HO586 := am_ (Kd.R_mono (Kd.R_keep (IsS138.apart (show IsS138 w0 _ g s0_0 t590 t591 from (zi138 HI0)) (by (with_reducible repeat (first | apply r1_ | apply r2_ | apply r3_));exact (Kd.R_mono (zrf (Kd.R_types HO586.out BK588.out (by decide))) (fun _ h_ => h_.1))) (by decide)) hk (fun _ h => h.2)) (fun _ h => h.1));replace BK588 := am_ (KeepBut.blk hk (g' := gb588) (o := .cells #[.int .i64 (wrap64 (1 + t572)),.int .i64 t575,.int .i64 (wrap64 (1 + t589)),.int .i64 t578,.string ⟨#[]⟩,.string ⟨#[]⟩,.string (t587.extract 0 8)] 33 (0,0)) (zq BK588) NB588_0.out (by simp));replace HK := am_ (KeepBut.trans (zh_ HK) hk (.inl rfl));replace HB := am_ (hb);replace HI0 := am_ (hi);(try clear hb);(try clear hb2);(try clear hk);(try clear hi)) | ((with_reducible refine gate_dst (N := 28) rfl ?_);refine Kd.R_lit (Kd.int .u8) _ 5 ?hg (N := 28) ?hd (xs := ([(t592) % 256] : List Int)) (inner := [.int .u8 ((t592) % 256)]) (ok := fun _ => True) (okp := fun _ => True) ?hr ?hp (fun _ hk => hk) trivial (Below.refl _ _) (Nat.le_refl _) (by simp) ?_;(case hd => rfl);(case hg => rfl);(case hr => first | (go_simp;done) | (go_simp;rfl));(case hp => exact (Reps.one (show Kd.M (Kd.int .u8) _ _ _ ((t592) % 256) [.int .u8 ((t592) % 256)] from rfl) (Reps.none _ _)));intro v596 w32 ho33 hb hg_ hnew_;clear hg_ hnew_;(first | rw [← Ny595.out] at ho33 | (simp only [Int.reduceToNat] at ho33;rw [← Ny595.out] at ho33));have HO597 := am_ (Kd.R_lower (Kd.R_new' ho33 (Kd.R_lt (zr HO586))) (keep_size (w := w) (g := g) (row := none) (zh_ HK)));replace HI0 := am_ (IsS138.below (zi138 HI0) hb);replace BK571 := zb BK571 hb;replace BK588 := zb BK588 hb;replace HK := am_ (KeepBut.trans (zh_ HK) (KeepBut.of_below hb g none) (.inl rfl));replace HB := zs_ HB hb;clear hb ho33;obtain ⟨Ao34,co34,eo34⟩ := Kd.R_slice HO597.out;subst eo34) | ((with_reducible refine gate_callee (f := 123) rfl ?_);refine zgl (some 29) Tryd.func123 #[.slice Ao34 y595.length co34] ?_;(with_reducible refine (spec_l01Hash.calls k _ _ y595 t598 _ ?side1 ?side2 A26.out).mono ?_);(case side1 => repeat (first | exact (Kd.R_reads' HO597.out).2.2 | (with_reducible refine Kd.C_alloc ?_ _) | (with_reducible refine Kd.C_drewN ?_ _) | (with_reducible refine Kd.C_drew ?_)));(case side2 => exact (Kd.R_reads' HO597.out).2.1);rintro e w35 ⟨rfl,hb⟩;refine ⟨_,rfl,?_⟩;replace HI0 := am_ (IsS138.below (zi138 HI0) hb);replace BK571 := zb BK571 hb;replace BK588 := zb BK588 hb;replace HK := am_ (KeepBut.trans (zh_ HK) (KeepBut.of_below hb g none) (.inl rfl));replace HB := zs_ HB hb;(try clear hb);(try clear hb2);(try clear hk);(try clear hi);obtain ⟨hcz36_0,hcz36_1,hcz36_2,hcz36_3,hcz36_4,hcz36_5,hcz36_6,hfz36_0,hfz36_1,hfz36_2,hfz36_3,hfz36_4,hfz36_5,hfz36_6⟩ := zc7 BK588))
     go_meet
     case rel => exact ⟨_,(t593),(t594),(wrap64 (1 + t589)),(t598),H',⟨by first | omega | exact Nat.le_refl _⟩,⟨zq BK571⟩,⟨zq BK588⟩,⟨(zi138 HI0)⟩,⟨zh_ HK⟩,⟨zl_ HB⟩⟩
    ·rw [if_neg c23] at H
     have c23b0 : decide ((wrap64 (1 + t572)) ≤ 3) = false := decide_eq_false c23
     clear c23
     (first | rw [c23b0] | (simp only [i64_w,i32_w];rw [c23b0]) | skip)
     have H' := am_ H
     clear H
     go_wp2
     go_meet
     case rel => exact ⟨_,(t582),(t583),(0),((⟨#[]⟩ : ByteArray)),H',⟨by first | omega | exact Nat.le_refl _⟩,⟨zq BK571⟩,⟨zq BK588⟩,⟨(zi138 HI0)⟩,⟨zh_ HK⟩,⟨zl_ HB⟩⟩
   case rest =>
    clear HC9
    try clear c1
    try clear c2
    try clear p2
    try clear c6
    try clear p6
    try clear c7
    try clear c7b0
    try clear c7b1
    try clear c8
    try clear c8b0
    try clear c8b1
    try clear c12
    try clear c20
    try clear c21
    try clear c23
    try clear c23b0
    try clear c28
    try clear c29
    try clear hcz22_0
    try clear hcz22_1
    try clear hcz22_2
    try clear hcz22_3
    try clear hcz22_4
    try clear hcz22_5
    try clear hcz22_6
    try clear hcz30_0
    try clear hcz30_1
    try clear hcz30_2
    try clear hcz30_3
    try clear hcz30_4
    try clear hcz30_5
    try clear hcz30_6
    try clear hcz36_0
    try clear hcz36_1
    try clear hcz36_2
    try clear hcz36_3
    try clear hcz36_4
    try clear hcz36_5
    try clear hcz36_6
    try clear hfz22_0
    try clear hfz22_1
    try clear hfz22_2
    try clear hfz22_3
    try clear hfz22_4
    try clear hfz22_5
    try clear hfz22_6
    try clear hfz30_0
    try clear hfz30_1
    try clear hfz30_2
    try clear hfz30_3
    try clear hfz30_4
    try clear hfz30_5
    try clear hfz30_6
    try clear hfz36_0
    try clear hfz36_1
    try clear hfz36_2
    try clear hfz36_3
    try clear hfz36_4
    try clear hfz36_5
    try clear hfz36_6
    obtain ⟨kq,x1001_8,x1002_8,x589002_8,x589004_8,HA,HJ8,BK571,BK588,HI0,HK,HB⟩ := hcut
    cases kq with
    | zero => exact absurd HA.out (by simp [spec_l00Src_message.j0])
    | succ kj8 =>
     have H := HA.out
     clear HA
     simp only [spec_l00Src_message.j0] at H
     by_cases c37 : (wrap64 (1 + t572)) = 1
     ·rw [if_pos c37] at H
      have c37b0 : ((wrap64 (1 + t572)) == 1) = true := beq_iff_eq.mpr c37
      have c37b1 : ((wrap64 (1 + t572)) != 1) = false := bne_eq_false_iff_eq.mpr c37
      clear c37
      replace H := Option.bind_eq_some_iff.mp H
      obtain ⟨⟨t599,t600,t601,t602,t603,t604,t605,t608,t609⟩,A380,H⟩ := H
      try dsimp only at H
      have A38 := am_ A380
      clear A380
      replace H := Option.bind_eq_some_iff.mp H
      obtain ⟨t610,A390,H⟩ := H
      try dsimp only at H
      have A39 := am_ A390
      clear A390
      by_cases c40 : (wrap64 (1 + t572)) ≥ 4
      ·rw [if_pos c40] at H
       have c40b0 : decide (4 ≤ (wrap64 (1 + t572))) = true := decide_eq_true c40
       clear c40
       obtain ⟨y613,hy613⟩ : ∃ y_ : List ByteArray,y_ = (([(⟨#[111,110,101]⟩ : ByteArray),(⟨#[116,119,111]⟩ : ByteArray)] : List ByteArray)) := ⟨_,rfl⟩
       replace H : ((spec_l02List.f kj8 y613).bind fun t616 => (some ((wrap64 (1 + t572)),t575,x589002_8,t578,x589004_8,strOfNums t616,(t587.extract 0 8),t608,t609))) = some (r1,r2,r3,r4,r5,r6,r7,r8,r9) := by first | (rw [hy613];with_reducible exact H) | (have H2_ := (Option.bind_some _ _).symm.trans H;rw [hy613];with_reducible exact H2_) | (have H2_ := (Option.bind_some _ _).symm.trans H;with_reducible exact H2_) | with_reducible exact H | (rw [hy613];exact H) | exact H
       have Ny613 := am_ hy613
       clear hy613
       replace H := Option.bind_eq_some_iff.mp H
       obtain ⟨t616,A410,H⟩ := H
       try dsimp only at H
       have A41 := am_ A410
       clear A410
       simp only [Option.some.injEq,Prod.mk.injEq] at H
       obtain ⟨rfl,rfl,rfl,rfl,rfl,rfl,rfl,rfl,rfl⟩ := H
       have hnb42 := NB588_571.out
       have hnc42 := NB571_588.out
       have hnb43 := NB588_0.out
       have hnc43 := NB0_588.out
       obtain ⟨hcz44_0,hcz44_1,hcz44_2,hcz44_3,hcz44_4,hcz44_5,hcz44_6,hfz44_0,hfz44_1,hfz44_2,hfz44_3,hfz44_4,hfz44_5,hfz44_6⟩ := zc7 BK588
       go_wp2_with (first | ((with_reducible refine gate_callee (f := 125) rfl ?_);refine zgl (some 35) Tryd.func125 #[.pointer (some ⟨g,0,none⟩)] ?_;(with_reducible refine (spec_l00Src_batch.calls kj8 g s0_0 x1001_8 x1002_8 t599 t600 t601 t602 t603 t604 t605 t608 t609 w0 _ ?side1 ?side2 A38.out).mono ?_);(case side1 => exact zi138 HI0);(case side2 => exact zl_ HB);rintro e w45 ⟨v606,rfl,ho0,hi,hb,hk⟩;refine ⟨_,rfl,?_⟩;replace BK571 := zkb hk BK571 NB571_0;replace BK588 := zkb hk BK588 NB588_0;have HO607 := am_ (Kd.R_lower ho0 (keep_size (w := w) (g := g) (row := none) (zh_ HK)));replace HK := am_ (KeepBut.trans (zh_ HK) hk (.inl rfl));replace HB := am_ (hb);replace HI0 := am_ (hi);(try clear hb);(try clear hb2);(try clear hk);(try clear hi);(try clear ho0);obtain ⟨Ao46,co46,eo46⟩ := Kd.R_slice HO607.out;subst eo46) | ((with_reducible refine gate_callee (f := 124) rfl ?_);refine zgl (some 36) Tryd.func124 #[.agg #[.bool t599,.int .i64 t600,.int .i64 t601,.int .i64 t602,.int .i64 t603,.string t604,.slice Ao46 t605.length co46]] ?_;(with_reducible refine (spec_l02Batch.calls kj8 t599 t600 t601 t602 t603 t604 _ _ t605 t610 _ ?side1 ?side2 A39.out).mono ?_);(case side1 => repeat (first | exact (Kd.R_reads' HO607.out).2.2 | (with_reducible refine Kd.C_alloc ?_ _) | (with_reducible refine Kd.C_drewN ?_ _) | (with_reducible refine Kd.C_drew ?_)));(case side2 => exact (Kd.R_reads' HO607.out).2.1);rintro e w47 ⟨v611,rfl,ho0,hb⟩;refine ⟨_,rfl,?_⟩;replace HO607 := zrb HO607 hb;have HO612 := am_ (Kd.R_lower ho0 (keep_size (w := w) (g := g) (row := none) (zh_ HK)));replace BK571 := zb BK571 hb;replace BK588 := zb BK588 hb;replace HI0 := am_ (IsS138.below (zi138 HI0) hb);replace HK := am_ (KeepBut.trans (zh_ HK) (KeepBut.of_below hb g none) (.inl rfl));replace HB := zs_ HB hb;(try clear hb);(try clear hb2);(try clear hk);(try clear hi);(try clear ho0);have hcv48 := own_string (P := Tryd.prog) Tryd.underlying31 Tryd.underlying5 Tryd.underlying9 (Kd.own_of_R HO612.out);obtain ⟨hcz49_0,hcz49_1,hcz49_2,hcz49_3,hcz49_4,hcz49_5,hcz49_6,hfz49_0,hfz49_1,hfz49_2,hfz49_3,hfz49_4,hfz49_5,hfz49_6⟩ := zc7 BK588) | ((with_reducible refine gate_dst (N := 42) rfl ?_);refine Kd.R_lit Kd.string _ 9 ?hg (N := 42) ?hd (xs := ([(⟨#[111,110,101]⟩ : ByteArray),(⟨#[116,119,111]⟩ : ByteArray)] : List ByteArray)) (inner := [.string ⟨#[111,110,101]⟩,.string ⟨#[116,119,111]⟩]) (ok := fun _ => True) (okp := fun _ => True) ?hr ?hp (fun _ hk => hk) trivial (Below.refl _ _) (Nat.le_refl _) (by simp) ?_;(case hd => rfl);(case hg => rfl);(case hr => first | (go_simp;done) | (go_simp;rfl));(case hp => exact (Reps.one (show Kd.M Kd.string _ _ _ (⟨#[111,110,101]⟩ : ByteArray) [.string ⟨#[111,110,101]⟩] from rfl) (Reps.one (show Kd.M Kd.string _ _ _ (⟨#[116,119,111]⟩ : ByteArray) [.string ⟨#[116,119,111]⟩] from rfl) (Reps.none _ _))));intro v614 w50 ho51 hb hg_ hnew_;clear hg_ hnew_;(first | rw [← Ny613.out] at ho51 | (simp only [Int.reduceToNat] at ho51;rw [← Ny613.out] at ho51));replace HO607 := am_ (Kd.R_below (by (with_reducible repeat (first | apply r1_ | apply r2_ | apply r3_));exact (Kd.R_mono (zrf (Kd.R_types HO607.out BK588.out (by decide))) (fun _ h_ => h_.1))) hb);replace HO612 := am_ (Kd.R_below (by (with_reducible repeat (first | apply r1_ | apply r2_ | apply r3_));exact (Kd.R_mono (zrf (Kd.R_types HO612.out BK588.out (by decide))) (fun _ h_ => h_.1))) hb);have HO615 := am_ (Kd.R_lower ho51 (keep_size (w := w) (g := g) (row := none) (zh_ HK)));replace BK571 := am_ (blk_below (g := gb571) (o := .cells #[.int .i64 0,.int .i64 0,.int .i64 0,.int .i64 0,.string ⟨#[]⟩,.string ⟨#[]⟩,.string ⟨#[]⟩] 33 (0,0)) (zq BK571) hb);replace BK588 := am_ (blk_below (g := gb588) (o := .cells #[.int .i64 (wrap64 (1 + t572)),.int .i64 t575,.int .i64 x589002_8,.int .i64 t578,.string x589004_8,.string (strOfNums t610),.string (t587.extract 0 8)] 33 (0,0)) (zq BK588) hb);replace HI0 := am_ (IsS138.below (show IsS138 w0 (w47.setCell ⟨gb588,5,none⟩ (.string (strOfNums t610))) g s0_0 t608 t609 from (zi138 HI0)) hb);replace HK := am_ (KeepBut.trans (zh_ HK) (KeepBut.of_below hb g none) (.inl rfl));replace HB := zs_ HB hb;clear hb ho51;obtain ⟨Ao52,co52,eo52⟩ := Kd.R_slice HO615.out;subst eo52) | ((with_reducible refine gate_callee (f := 126) rfl ?_);refine zgl (some 43) Tryd.func126 #[.slice Ao52 y613.length co52] ?_;(with_reducible refine (spec_l02List.calls kj8 _ _ y613 t616 _ ?side1 ?side2 A41.out).mono ?_);(case side1 => repeat (first | exact (Kd.R_reads' HO615.out).2.2 | (with_reducible refine Kd.C_alloc ?_ _) | (with_reducible refine Kd.C_drewN ?_ _) | (with_reducible refine Kd.C_drew ?_)));(case side2 => exact (Kd.R_reads' HO615.out).2.1);rintro e w53 ⟨v617,rfl,ho0,hb⟩;refine ⟨_,rfl,?_⟩;replace HO607 := zrb HO607 hb;have HO618 := am_ (Kd.R_lower (Kd.R_new' ho0 (Kd.R_lt (zr HO612))) (keep_size (w := w) (g := g) (row := none) (zh_ HK)));replace HO612 := am_ (Kd.R_elder' (zr HO612) (Kd.R_base ho0) hb);replace BK571 := zb BK571 hb;replace BK588 := zb BK588 hb;replace HI0 := am_ (IsS138.below (zi138 HI0) hb);replace HK := am_ (KeepBut.trans (zh_ HK) (KeepBut.of_below hb g none) (.inl rfl));replace HB := zs_ HB hb;(try clear hb);(try clear hb2);(try clear hk);(try clear hi);(try clear ho0);have hcv54 := own_string (P := Tryd.prog) Tryd.underlying31 Tryd.underlying5 Tryd.underlying9 (Kd.own_of_R HO618.out);obtain ⟨hcz55_0,hcz55_1,hcz55_2,hcz55_3,hcz55_4,hcz55_5,hcz55_6,hfz55_0,hfz55_1,hfz55_2,hfz55_3,hfz55_4,hfz55_5,hfz55_6⟩ := zc7 BK588;have hnb56 := NB571_0.out;have hnc56 := NB0_571.out;obtain ⟨hcz57_0,hcz57_1,hcz57_2,hcz57_3,hcz57_4,hcz57_5,hcz57_6,hfz57_0,hfz57_1,hfz57_2,hfz57_3,hfz57_4,hfz57_5,hfz57_6⟩ := zc7 BK571))
       refine bodyPost_ret (results_cell_row rfl _ _ gb571 33 #[.int .i64 (wrap64 (1 + t572)),.int .i64 t575,.int .i64 x589002_8,.int .i64 t578,.string x589004_8,.string (strOfNums t616),.string (t587.extract 0 8)] (0,0) _ rfl (zq BK571) Tryd.underlying33 rfl (by kernel_rfl)) rfl ?_
       exact ⟨zt_,(zi138 HI0),zl_ HB,zh_ HK⟩
      ·rw [if_neg c40] at H
       have c40b0 : decide (4 ≤ (wrap64 (1 + t572))) = false := decide_eq_false c40
       clear c40
       simp only [Option.some.injEq,Prod.mk.injEq] at H
       obtain ⟨rfl,rfl,rfl,rfl,rfl,rfl,rfl,rfl,rfl⟩ := H
       have hnb58 := NB588_571.out
       have hnc58 := NB571_588.out
       have hnb59 := NB588_0.out
       have hnc59 := NB0_588.out
       obtain ⟨hcz60_0,hcz60_1,hcz60_2,hcz60_3,hcz60_4,hcz60_5,hcz60_6,hfz60_0,hfz60_1,hfz60_2,hfz60_3,hfz60_4,hfz60_5,hfz60_6⟩ := zc7 BK588
       go_wp2_with (first | ((with_reducible refine gate_callee (f := 125) rfl ?_);refine zgl (some 35) Tryd.func125 #[.pointer (some ⟨g,0,none⟩)] ?_;(with_reducible refine (spec_l00Src_batch.calls kj8 g s0_0 x1001_8 x1002_8 t599 t600 t601 t602 t603 t604 t605 t608 t609 w0 _ ?side1 ?side2 A38.out).mono ?_);(case side1 => exact zi138 HI0);(case side2 => exact zl_ HB);rintro e w61 ⟨v606,rfl,ho0,hi,hb,hk⟩;refine ⟨_,rfl,?_⟩;replace BK571 := zkb hk BK571 NB571_0;replace BK588 := zkb hk BK588 NB588_0;have HO607 := am_ (Kd.R_lower ho0 (keep_size (w := w) (g := g) (row := none) (zh_ HK)));replace HK := am_ (KeepBut.trans (zh_ HK) hk (.inl rfl));replace HB := am_ (hb);replace HI0 := am_ (hi);(try clear hb);(try clear hb2);(try clear hk);(try clear hi);(try clear ho0);obtain ⟨Ao62,co62,eo62⟩ := Kd.R_slice HO607.out;subst eo62) | ((with_reducible refine gate_callee (f := 124) rfl ?_);refine zgl (some 36) Tryd.func124 #[.agg #[.bool t599,.int .i64 t600,.int .i64 t601,.int .i64 t602,.int .i64 t603,.string t604,.slice Ao62 t605.length co62]] ?_;(with_reducible refine (spec_l02Batch.calls kj8 t599 t600 t601 t602 t603 t604 _ _ t605 t610 _ ?side1 ?side2 A39.out).mono ?_);(case side1 => repeat (first | exact (Kd.R_reads' HO607.out).2.2 | (with_reducible refine Kd.C_alloc ?_ _) | (with_reducible refine Kd.C_drewN ?_ _) | (with_reducible refine Kd.C_drew ?_)));(case side2 => exact (Kd.R_reads' HO607.out).2.1);rintro e w63 ⟨v611,rfl,ho0,hb⟩;refine ⟨_,rfl,?_⟩;have HO612 := am_ (Kd.R_lower ho0 (keep_size (w := w) (g := g) (row := none) (zh_ HK)));replace BK571 := zb BK571 hb;replace BK588 := zb BK588 hb;replace HI0 := am_ (IsS138.below (zi138 HI0) hb);replace HK := am_ (KeepBut.trans (zh_ HK) (KeepBut.of_below hb g none) (.inl rfl));replace HB := zs_ HB hb;(try clear hb);(try clear hb2);(try clear hk);(try clear hi);(try clear ho0);have hcv64 := own_string (P := Tryd.prog) Tryd.underlying31 Tryd.underlying5 Tryd.underlying9 (Kd.own_of_R HO612.out);obtain ⟨hcz65_0,hcz65_1,hcz65_2,hcz65_3,hcz65_4,hcz65_5,hcz65_6,hfz65_0,hfz65_1,hfz65_2,hfz65_3,hfz65_4,hfz65_5,hfz65_6⟩ := zc7 BK588;have hnb66 := NB571_0.out;have hnc66 := NB0_571.out;obtain ⟨hcz67_0,hcz67_1,hcz67_2,hcz67_3,hcz67_4,hcz67_5,hcz67_6,hfz67_0,hfz67_1,hfz67_2,hfz67_3,hfz67_4,hfz67_5,hfz67_6⟩ := zc7 BK571))
       refine bodyPost_ret (results_cell_row rfl _ _ gb571 33 #[.int .i64 (wrap64 (1 + t572)),.int .i64 t575,.int .i64 x589002_8,.int .i64 t578,.string x589004_8,.string (strOfNums t610),.string (t587.extract 0 8)] (0,0) _ rfl (zq BK571) Tryd.underlying33 rfl (by kernel_rfl)) rfl ?_
       exact ⟨zt_,(zi138 HI0),zl_ HB,zh_ HK⟩
     ·rw [if_neg c37] at H
      have c37b0 : ((wrap64 (1 + t572)) == 1) = false := beq_eq_false_iff_ne.mpr c37
      have c37b1 : ((wrap64 (1 + t572)) != 1) = true := bne_iff_ne.mpr c37
      by_cases c68 : (wrap64 (1 + t572)) ≥ 4
      ·rw [if_pos c68] at H
       have c68b0 : decide (4 ≤ (wrap64 (1 + t572))) = true := decide_eq_true c68
       clear c68
       obtain ⟨y619,hy619⟩ : ∃ y_ : List ByteArray,y_ = (([(⟨#[111,110,101]⟩ : ByteArray),(⟨#[116,119,111]⟩ : ByteArray)] : List ByteArray)) := ⟨_,rfl⟩
       replace H : ((spec_l02List.f kj8 y619).bind fun t622 => (some ((wrap64 (1 + t572)),t575,x589002_8,t578,x589004_8,strOfNums t622,(t587.extract 0 8),x1001_8,x1002_8))) = some (r1,r2,r3,r4,r5,r6,r7,r8,r9) := by first | (rw [hy619];with_reducible exact H) | (have H2_ := (Option.bind_some _ _).symm.trans H;rw [hy619];with_reducible exact H2_) | (have H2_ := (Option.bind_some _ _).symm.trans H;with_reducible exact H2_) | with_reducible exact H | (rw [hy619];exact H) | exact H
       have Ny619 := am_ hy619
       clear hy619
       replace H := Option.bind_eq_some_iff.mp H
       obtain ⟨t622,A690,H⟩ := H
       try dsimp only at H
       have A69 := am_ A690
       clear A690
       simp only [Option.some.injEq,Prod.mk.injEq] at H
       obtain ⟨rfl,rfl,rfl,rfl,rfl,rfl,rfl,rfl,rfl⟩ := H
       have hnb70 := NB588_571.out
       have hnc70 := NB571_588.out
       have hnb71 := NB588_0.out
       have hnc71 := NB0_588.out
       obtain ⟨hcz72_0,hcz72_1,hcz72_2,hcz72_3,hcz72_4,hcz72_5,hcz72_6,hfz72_0,hfz72_1,hfz72_2,hfz72_3,hfz72_4,hfz72_5,hfz72_6⟩ := zc7 BK588
       go_wp2_with (first | ((with_reducible refine gate_dst (N := 42) rfl ?_);refine Kd.R_lit Kd.string _ 9 ?hg (N := 42) ?hd (xs := ([(⟨#[111,110,101]⟩ : ByteArray),(⟨#[116,119,111]⟩ : ByteArray)] : List ByteArray)) (inner := [.string ⟨#[111,110,101]⟩,.string ⟨#[116,119,111]⟩]) (ok := fun _ => True) (okp := fun _ => True) ?hr ?hp (fun _ hk => hk) trivial (Below.refl _ _) (Nat.le_refl _) (by simp) ?_;(case hd => rfl);(case hg => rfl);(case hr => first | (go_simp;done) | (go_simp;rfl));(case hp => exact (Reps.one (show Kd.M Kd.string _ _ _ (⟨#[111,110,101]⟩ : ByteArray) [.string ⟨#[111,110,101]⟩] from rfl) (Reps.one (show Kd.M Kd.string _ _ _ (⟨#[116,119,111]⟩ : ByteArray) [.string ⟨#[116,119,111]⟩] from rfl) (Reps.none _ _))));intro v620 w73 ho74 hb hg_ hnew_;clear hg_ hnew_;(first | rw [← Ny619.out] at ho74 | (simp only [Int.reduceToNat] at ho74;rw [← Ny619.out] at ho74));have HO621 := am_ (Kd.R_lower ho74 (keep_size (w := w) (g := g) (row := none) (zh_ HK)));replace BK571 := zb BK571 hb;replace BK588 := zb BK588 hb;replace HI0 := am_ (IsS138.below (zi138 HI0) hb);replace HK := am_ (KeepBut.trans (zh_ HK) (KeepBut.of_below hb g none) (.inl rfl));replace HB := zs_ HB hb;clear hb ho74;obtain ⟨Ao75,co75,eo75⟩ := Kd.R_slice HO621.out;subst eo75) | ((with_reducible refine gate_callee (f := 126) rfl ?_);refine zgl (some 43) Tryd.func126 #[.slice Ao75 y619.length co75] ?_;(with_reducible refine (spec_l02List.calls kj8 _ _ y619 t622 _ ?side1 ?side2 A69.out).mono ?_);(case side1 => repeat (first | exact (Kd.R_reads' HO621.out).2.2 | (with_reducible refine Kd.C_alloc ?_ _) | (with_reducible refine Kd.C_drewN ?_ _) | (with_reducible refine Kd.C_drew ?_)));(case side2 => exact (Kd.R_reads' HO621.out).2.1);rintro e w76 ⟨v623,rfl,ho0,hb⟩;refine ⟨_,rfl,?_⟩;have HO624 := am_ (Kd.R_lower ho0 (keep_size (w := w) (g := g) (row := none) (zh_ HK)));replace BK571 := zb BK571 hb;replace BK588 := zb BK588 hb;replace HI0 := am_ (IsS138.below (zi138 HI0) hb);replace HK := am_ (KeepBut.trans (zh_ HK) (KeepBut.of_below hb g none) (.inl rfl));replace HB := zs_ HB hb;(try clear hb);(try clear hb2);(try clear hk);(try clear hi);(try clear ho0);have hcv77 := own_string (P := Tryd.prog) Tryd.underlying31 Tryd.underlying5 Tryd.underlying9 (Kd.own_of_R HO624.out);obtain ⟨hcz78_0,hcz78_1,hcz78_2,hcz78_3,hcz78_4,hcz78_5,hcz78_6,hfz78_0,hfz78_1,hfz78_2,hfz78_3,hfz78_4,hfz78_5,hfz78_6⟩ := zc7 BK588;have hnb79 := NB571_0.out;have hnc79 := NB0_571.out;obtain ⟨hcz80_0,hcz80_1,hcz80_2,hcz80_3,hcz80_4,hcz80_5,hcz80_6,hfz80_0,hfz80_1,hfz80_2,hfz80_3,hfz80_4,hfz80_5,hfz80_6⟩ := zc7 BK571))
       refine bodyPost_ret (results_cell_row rfl _ _ gb571 33 #[.int .i64 (wrap64 (1 + t572)),.int .i64 t575,.int .i64 x589002_8,.int .i64 t578,.string x589004_8,.string (strOfNums t622),.string (t587.extract 0 8)] (0,0) _ rfl (zq BK571) Tryd.underlying33 rfl (by kernel_rfl)) rfl ?_
       exact ⟨zt_,(zi138 HI0),zl_ HB,zh_ HK⟩
      ·rw [if_neg c68] at H
       have c68b0 : decide (4 ≤ (wrap64 (1 + t572))) = false := decide_eq_false c68
       clear c68
       simp only [Option.some.injEq,Prod.mk.injEq] at H
       obtain ⟨rfl,rfl,rfl,rfl,rfl,rfl,rfl,rfl,rfl⟩ := H
       have hnb81 := NB588_571.out
       have hnc81 := NB571_588.out
       have hnb82 := NB588_0.out
       have hnc82 := NB0_588.out
       obtain ⟨hcz83_0,hcz83_1,hcz83_2,hcz83_3,hcz83_4,hcz83_5,hcz83_6,hfz83_0,hfz83_1,hfz83_2,hfz83_3,hfz83_4,hfz83_5,hfz83_6⟩ := zc7 BK588
       have hnb84 := NB571_0.out
       have hnc84 := NB0_571.out
       obtain ⟨hcz85_0,hcz85_1,hcz85_2,hcz85_3,hcz85_4,hcz85_5,hcz85_6,hfz85_0,hfz85_1,hfz85_2,hfz85_3,hfz85_4,hfz85_5,hfz85_6⟩ := zc7 BK571
       go_wp2
       refine bodyPost_ret (results_cell_row rfl _ _ gb571 33 #[.int .i64 (wrap64 (1 + t572)),.int .i64 t575,.int .i64 x589002_8,.int .i64 t578,.string x589004_8,.string ⟨#[]⟩,.string (t587.extract 0 8)] (0,0) _ rfl (zq BK571) Tryd.underlying33 rfl (by kernel_rfl)) rfl ?_
       exact ⟨zt_,(zi138 HI0),zl_ HB,zh_ HK⟩
  ·rw [if_neg c8] at H
   exact absurd H (by simp)
 ·rw [if_neg c7] at H
  exact absurd H (by simp)
set_option maxHeartbeats 8000000 in
set_option maxRecDepth 100000 in
theorem spec_MessageOf.calls (k : Nat) (A0 : Option Addr) (c0 : Nat) (l0 : List Int) (r1 : Int) (r2 : Int) (r3 : Int) (r4 : Int) (r5 : ByteArray) (r6 : ByteArray) (r7 : ByteArray) (w : World) (hr0 : Kd.C (Kd.int .u8) w A0 l0.length l0) (hc0 : l0.length ≤ c0) (h : spec_MessageOf.f k l0 = some (r1,r2,r3,r4,r5,r6,r7)) :
  Calls Tryd.prog 20 #[.slice A0 l0.length c0] w fun e w' => e = .returned (.agg #[.int .i64 r1,.int .i64 r2,.int .i64 r3,.int .i64 r4,.string r5,.string r6,.string r7]) ∧ Below w.heap.size w w' := by
 have hu33 := Tryd.underlying33
 have HR0 := am_ hr0
 have HC0 := am_ hc0
 clear hr0 hc0
 have HB := am_ (Below.refl w.heap.size w)
 have H : ((spec_l00Source.f l0).bind fun bt626 => ((spec_l00Src_message.f k bt626.1 bt626.2.1 bt626.2.2).bind fun bt630 => (some (bt630.1,bt630.2.1,bt630.2.2.1,bt630.2.2.2.1,bt630.2.2.2.2.1,bt630.2.2.2.2.2.1,bt630.2.2.2.2.2.2.1)))) = some (r1,r2,r3,r4,r5,r6,r7) := h
 clear h
 replace H := Option.bind_eq_some_iff.mp H
 obtain ⟨⟨t626,t627,t628⟩,A20,H⟩ := H
 try dsimp only at H
 have A2 := am_ A20
 clear A20
 replace H := Option.bind_eq_some_iff.mp H
 obtain ⟨⟨t630,t631,t632,t633,t634,t635,t636,t637,t638⟩,A30,H⟩ := H
 try dsimp only at H
 have A3 := am_ A30
 clear A30
 simp only [Option.some.injEq,Prod.mk.injEq] at H
 obtain ⟨rfl,rfl,rfl,rfl,rfl,rfl,rfl⟩ := H
 go_enter Tryd.func20,Tryd.ntmps20
 go_wp2_with (first | ((with_reducible refine gate_dst (N := 2) rfl ?_);refine zbx (N := 2) (cs := #[.int .i64 0,.int .i64 0,.int .i64 0,.int .i64 0,.string ⟨#[]⟩,.string ⟨#[]⟩,.string ⟨#[]⟩]) (t := 33) ?_;intro gb625 hg w4 hbox hb;have BK625 := am_ (hbox);have GW625 := zw_ HB hg;have GE625 := zw_ HB hg;replace HB := zs_ HB hb;clear hb hbox hg) | ((with_reducible refine gate_callee (f := 62) rfl ?_);refine zgl (some 4) Tryd.func62 #[.slice A0 l0.length c0] ?_;(with_reducible refine (spec_l00Source.calls _ _ l0 t626 t627 t628 w _ ?side1 ?side2 ?side3 A2.out).mono ?_);(case side1 => exact zl_ HB);(case side2 => exact HR0.out);(case side3 => exact HC0.out);rintro e w5 ⟨g629,rfl,hi,hb,hb2⟩;refine ⟨_,rfl,?_⟩;replace HB := am_ (hb);have HI629 := am_ (hi);have NB629_625 := am_ (IsS138.ne_blk hi (blk_below (g := gb625) (o := .cells #[.int .i64 0,.int .i64 0,.int .i64 0,.int .i64 0,.string ⟨#[]⟩,.string ⟨#[]⟩,.string ⟨#[]⟩] 33 (0,0)) (zk BK625) hb2) (by decide));have NB625_629 := am_ (Ne.symm (IsS138.ne_blk hi (blk_below (g := gb625) (o := .cells #[.int .i64 0,.int .i64 0,.int .i64 0,.int .i64 0,.string ⟨#[]⟩,.string ⟨#[]⟩,.string ⟨#[]⟩] 33 (0,0)) (zk BK625) hb2) (by decide)));replace BK625 := am_ (blk_below (g := gb625) (o := .cells #[.int .i64 0,.int .i64 0,.int .i64 0,.int .i64 0,.string ⟨#[]⟩,.string ⟨#[]⟩,.string ⟨#[]⟩] 33 (0,0)) (zk BK625) hb2);(try clear hb);(try clear hb2);(try clear hk);(try clear hi)) | ((with_reducible refine gate_callee (f := 63) rfl ?_);refine zgl (some 5) Tryd.func63 #[.pointer (some ⟨g629,0,none⟩)] ?_;(with_reducible refine (spec_l00Src_message.calls k g629 t626 t627 t628 t630 t631 t632 t633 t634 t635 t636 t637 t638 w _ ?side1 ?side2 A3.out).mono ?_);(case side1 => exact zi138 HI629);(case side2 => exact zl_ HB);rintro e w6 ⟨rfl,hi,hb,hk⟩;refine ⟨_,rfl,?_⟩;replace BK625 := zkb hk BK625 NB625_629;replace HB := am_ (hb);replace HI629 := am_ (hi);(try clear hb);(try clear hb2);(try clear hk);(try clear hi);have hnb7 := NB625_629.out;have hnc7 := NB629_625.out;obtain ⟨hcz8_0,hcz8_1,hcz8_2,hcz8_3,hcz8_4,hcz8_5,hcz8_6,hfz8_0,hfz8_1,hfz8_2,hfz8_3,hfz8_4,hfz8_5,hfz8_6⟩ := zc7 BK625))
 refine bodyPost_ret (results_cell_row rfl _ _ gb625 33 #[.int .i64 t630,.int .i64 t631,.int .i64 t632,.int .i64 t633,.string t634,.string t635,.string t636] (0,0) _ rfl (zq BK625) Tryd.underlying33 rfl (by kernel_rfl)) rfl ?_
 exact ⟨zt_,zl_ HB⟩
set_option maxHeartbeats 8000000 in
set_option maxRecDepth 100000 in
theorem spec_l04Nodes.calls (a0 : Int) (r : Bool) (w : World) (h : spec_l04Nodes.f a0 = some r) :
  Calls Tryd.prog 73 #[.int .i64 a0] w fun e w' => e = .returned (.bool r) ∧ Drawn0 w w' := by
 have H : (if a0 = 1 then (some true) else (if a0 = 4 then (some true) else (some (a0 == 7)))) = some r := h
 clear h
 by_cases c2 : a0 = 1
 ·rw [if_pos c2] at H
  have c2b0 : (a0 == 1) = true := beq_iff_eq.mpr c2
  have c2b1 : (a0 != 1) = false := bne_eq_false_iff_eq.mpr c2
  clear c2
  obtain rfl := Option.some.inj H
  go_enter Tryd.func73,Tryd.ntmps73
  go_wp2
  go_ret
  exact ⟨by first | rfl | (simp;done) | (simp [*];done),by repeat (first | exact Drawn0.refl _ | apply Drawn0.step)⟩
 ·rw [if_neg c2] at H
  have c2b0 : (a0 == 1) = false := beq_eq_false_iff_ne.mpr c2
  have c2b1 : (a0 != 1) = true := bne_iff_ne.mpr c2
  by_cases c3 : a0 = 4
  ·rw [if_pos c3] at H
   have c3b0 : (a0 == 4) = true := beq_iff_eq.mpr c3
   have c3b1 : (a0 != 4) = false := bne_eq_false_iff_eq.mpr c3
   clear c3
   obtain rfl := Option.some.inj H
   go_enter Tryd.func73,Tryd.ntmps73
   go_wp2
   go_ret
   exact ⟨by first | rfl | (simp;done) | (simp [*];done),by repeat (first | exact Drawn0.refl _ | apply Drawn0.step)⟩
  ·rw [if_neg c3] at H
   have c3b0 : (a0 == 4) = false := beq_eq_false_iff_ne.mpr c3
   have c3b1 : (a0 != 4) = true := bne_iff_ne.mpr c3
   obtain rfl := Option.some.inj H
   go_enter Tryd.func73,Tryd.ntmps73
   go_wp2
   go_ret
   exact ⟨by first | rfl | (simp;done) | (simp [*];done),by repeat (first | exact Drawn0.refl _ | apply Drawn0.step)⟩
set_option maxHeartbeats 8000000 in
set_option maxRecDepth 100000 in
theorem spec_l01In.calls (a0 : Int) (a1 : Int) (a2 : Int) (r : Bool) (w : World) (h : spec_l01In.f a0 a1 a2 = some r) :
  Calls Tryd.prog 53 #[.int .i64 a0,.int .i64 a1,.int .i64 a2] w fun e w' => e = .returned (.bool r) ∧ Drawn0 w w' := by
 have H : (if a0 ≥ a1 then (some (decide (a0 ≤ a2))) else (some false)) = some r := h
 clear h
 by_cases c4 : a0 ≥ a1
 ·rw [if_pos c4] at H
  have c4b0 : decide (a1 ≤ a0) = true := decide_eq_true c4
  clear c4
  obtain rfl := Option.some.inj H
  go_enter Tryd.func53,Tryd.ntmps53
  go_wp2
  go_ret
  exact ⟨by first | rfl | (simp;done) | (simp [*];done),by repeat (first | exact Drawn0.refl _ | apply Drawn0.step)⟩
 ·rw [if_neg c4] at H
  have c4b0 : decide (a1 ≤ a0) = false := decide_eq_false c4
  clear c4
  obtain rfl := Option.some.inj H
  go_enter Tryd.func53,Tryd.ntmps53
  go_wp2
  go_ret
  exact ⟨by first | rfl | (simp;done) | (simp [*];done),by repeat (first | exact Drawn0.refl _ | apply Drawn0.step)⟩
set_option maxHeartbeats 8000000 in
set_option maxRecDepth 100000 in
theorem spec_MessageOK.calls (k : Nat) (a0_0 : Int) (a0_1 : Int) (a0_2 : Int) (a0_3 : Int) (a0_4 : ByteArray) (a0_5 : ByteArray) (a0_6 : ByteArray) (r : Bool) (w : World) (h : spec_MessageOK.f k a0_0 a0_1 a0_2 a0_3 a0_4 a0_5 a0_6 = some r) :
  Calls Tryd.prog 67 #[.agg #[.int .i64 a0_0,.int .i64 a0_1,.int .i64 a0_2,.int .i64 a0_3,.string a0_4,.string a0_5,.string a0_6]] w fun e w' => e = .returned (.bool r) ∧ Below w.heap.size w w' := by
 have hu33 := Tryd.underlying33
 have HB := am_ (Below.refl w.heap.size w)
 have H : ((spec_l01In.f a0_0 1 5).bind fun t673 => (if t673 = true then ((spec_l01In.f a0_1 0 20).bind fun t674 => (if t674 = true then ((spec_l01In.f a0_3 0 6).bind fun t675 => (if t675 = true then (if (a0_6.size : Int) = 8 then (spec_MessageOK.j0 k (decide ((a0_5.size : Int) > 20000)) a0_0 a0_1 a0_2 a0_3 a0_4 a0_5 a0_6) else (spec_MessageOK.j0 k true a0_0 a0_1 a0_2 a0_3 a0_4 a0_5 a0_6)) else (spec_MessageOK.j0 k true a0_0 a0_1 a0_2 a0_3 a0_4 a0_5 a0_6))) else (spec_MessageOK.j0 k true a0_0 a0_1 a0_2 a0_3 a0_4 a0_5 a0_6))) else (spec_MessageOK.j0 k true a0_0 a0_1 a0_2 a0_3 a0_4 a0_5 a0_6))) = some r := h
 clear h
 have HC2 := am_ H
 clear H
 go_enter Tryd.func67,Tryd.ntmps67
 go_upto_region 1 with (first | ((with_reducible refine gate_dst (N := 1) rfl ?_);(try (refine gate_guard (by rfl) ?_;dsimp only));refine zbx (N := 1) (cs := #[.int .i64 a0_0,.int .i64 a0_1,.int .i64 a0_2,.int .i64 a0_3,.string a0_4,.string a0_5,.string a0_6]) (t := 33) ?_;intro gb672 hg w3 hbox hb;have BK672 := am_ (hbox);have GW672 := zw_ HB hg;have GE672 := zw_ HB hg;replace HB := zs_ HB hb;clear hb hbox hg))
 (try simp only [Act.put,p1_,p2_,p3_])
 go_cut [30] (fun v30 wc => ∃ (kq : Nat) (x30_1 : Bool),v30 = .bool x30_1 ∧ Aside0 (spec_MessageOK.j0 kq x30_1 a0_0 a0_1 a0_2 a0_3 a0_4 a0_5 a0_6 = some r) ∧ Aside0 (kq ≤ k) ∧ Aside0 (wc.heap[gb672]? = some (.cells #[.int .i64 a0_0,.int .i64 a0_1,.int .i64 a0_2,.int .i64 a0_3,.string a0_4,.string a0_5,.string a0_6] 33 (0,0))) ∧ Aside0 (Below w.heap.size w wc))
 case first =>
  have H := HC2.out
  clear HC2
  replace H := Option.bind_eq_some_iff.mp H
  obtain ⟨t673,A40,H⟩ := H
  try dsimp only at H
  have A4 := am_ A40
  clear A40
  by_cases c5 : t673 = true
  ·subst c5
   have H1 : ((spec_l01In.f a0_1 0 20).bind fun t674 => (if t674 = true then ((spec_l01In.f a0_3 0 6).bind fun t675 => (if t675 = true then (if (a0_6.size : Int) = 8 then (spec_MessageOK.j0 k (decide ((a0_5.size : Int) > 20000)) a0_0 a0_1 a0_2 a0_3 a0_4 a0_5 a0_6) else (spec_MessageOK.j0 k true a0_0 a0_1 a0_2 a0_3 a0_4 a0_5 a0_6)) else (spec_MessageOK.j0 k true a0_0 a0_1 a0_2 a0_3 a0_4 a0_5 a0_6))) else (spec_MessageOK.j0 k true a0_0 a0_1 a0_2 a0_3 a0_4 a0_5 a0_6))) = some r := by rw [if_pos rfl] at H;exact H
   clear H
   have H := H1
   clear H1
   replace H := Option.bind_eq_some_iff.mp H
   obtain ⟨t674,A60,H⟩ := H
   try dsimp only at H
   have A6 := am_ A60
   clear A60
   by_cases c7 : t674 = true
   ·subst c7
    have H1 : ((spec_l01In.f a0_3 0 6).bind fun t675 => (if t675 = true then (if (a0_6.size : Int) = 8 then (spec_MessageOK.j0 k (decide ((a0_5.size : Int) > 20000)) a0_0 a0_1 a0_2 a0_3 a0_4 a0_5 a0_6) else (spec_MessageOK.j0 k true a0_0 a0_1 a0_2 a0_3 a0_4 a0_5 a0_6)) else (spec_MessageOK.j0 k true a0_0 a0_1 a0_2 a0_3 a0_4 a0_5 a0_6))) = some r := by rw [if_pos rfl] at H;exact H
    clear H
    have H := H1
    clear H1
    replace H := Option.bind_eq_some_iff.mp H
    obtain ⟨t675,A80,H⟩ := H
    try dsimp only at H
    have A8 := am_ A80
    clear A80
    by_cases c9 : t675 = true
    ·subst c9
     have H1 : (if (a0_6.size : Int) = 8 then (spec_MessageOK.j0 k (decide ((a0_5.size : Int) > 20000)) a0_0 a0_1 a0_2 a0_3 a0_4 a0_5 a0_6) else (spec_MessageOK.j0 k true a0_0 a0_1 a0_2 a0_3 a0_4 a0_5 a0_6)) = some r := by rw [if_pos rfl] at H;exact H
     clear H
     have H := H1
     clear H1
     by_cases c10 : (a0_6.size : Int) = 8
     ·rw [if_pos c10] at H
      have c10b0 : ((a0_6.size : Int) == 8) = true := beq_iff_eq.mpr c10
      have c10b1 : ((a0_6.size : Int) != 8) = false := bne_eq_false_iff_eq.mpr c10
      clear c10
      (first | rw [c10b0] | (simp only [i64_w,i32_w];rw [c10b0]) | skip)
      have H' := am_ H
      clear H
      obtain ⟨hcz11_0,hcz11_1,hcz11_2,hcz11_3,hcz11_4,hcz11_5,hcz11_6,hfz11_0,hfz11_1,hfz11_2,hfz11_3,hfz11_4,hfz11_5,hfz11_6⟩ := zc7 BK672
      go_wp2_with (first | ((with_reducible refine gate_callee (f := 53) rfl ?_);refine zgl (some 5) Tryd.func53 #[.int .i64 a0_0,.int .i64 1,.int .i64 5] ?_;(with_reducible refine (spec_l01In.calls a0_0 1 5 true _ A4.out).mono ?_);rintro e w' ⟨rfl,⟨nd,rfl⟩⟩;refine ⟨_,rfl,?_⟩) | (go_at_call 53;(with_reducible refine (spec_l01In.calls a0_1 0 20 true _ A6.out).mono ?_);rintro e w' ⟨rfl,⟨nd,rfl⟩⟩) | (go_at_call 53;(with_reducible refine (spec_l01In.calls a0_3 0 6 true _ A8.out).mono ?_);rintro e w' ⟨rfl,⟨nd,rfl⟩⟩))
      go_meet
      case rel => exact ⟨_,(decide ((a0_5.size : Int) > 20000)),(by first | rfl | (simp;done) | (simp [*];done)),H',⟨by first | omega | exact Nat.le_refl _⟩,⟨by (with_reducible repeat (first | apply k1_ | apply k2_ | apply k3_));exact BK672.out⟩,⟨zl_ HB⟩⟩
     ·rw [if_neg c10] at H
      have c10b0 : ((a0_6.size : Int) == 8) = false := beq_eq_false_iff_ne.mpr c10
      have c10b1 : ((a0_6.size : Int) != 8) = true := bne_iff_ne.mpr c10
      (first | rw [c10b0] | (simp only [i64_w,i32_w];rw [c10b0]) | skip)
      have H' := am_ H
      clear H
      obtain ⟨hcz12_0,hcz12_1,hcz12_2,hcz12_3,hcz12_4,hcz12_5,hcz12_6,hfz12_0,hfz12_1,hfz12_2,hfz12_3,hfz12_4,hfz12_5,hfz12_6⟩ := zc7 BK672
      go_wp2_with (first | ((with_reducible refine gate_callee (f := 53) rfl ?_);refine zgl (some 5) Tryd.func53 #[.int .i64 a0_0,.int .i64 1,.int .i64 5] ?_;(with_reducible refine (spec_l01In.calls a0_0 1 5 true _ A4.out).mono ?_);rintro e w' ⟨rfl,⟨nd,rfl⟩⟩;refine ⟨_,rfl,?_⟩) | (go_at_call 53;(with_reducible refine (spec_l01In.calls a0_1 0 20 true _ A6.out).mono ?_);rintro e w' ⟨rfl,⟨nd,rfl⟩⟩) | (go_at_call 53;(with_reducible refine (spec_l01In.calls a0_3 0 6 true _ A8.out).mono ?_);rintro e w' ⟨rfl,⟨nd,rfl⟩⟩))
      go_meet
      case rel => exact ⟨_,(true),(by first | rfl | (simp;done) | (simp [*];done)),H',⟨by first | omega | exact Nat.le_refl _⟩,⟨by (with_reducible repeat (first | apply k1_ | apply k2_ | apply k3_));exact BK672.out⟩,⟨zl_ HB⟩⟩
    ·replace c9 := Bool.eq_false_iff.mpr c9
     subst c9
     have H1 : (spec_MessageOK.j0 k true a0_0 a0_1 a0_2 a0_3 a0_4 a0_5 a0_6) = some r := by rw [if_neg (show ¬ (false = true) by decide)] at H;exact H
     clear H
     have H := H1
     clear H1
     have H' := am_ H
     clear H
     obtain ⟨hcz13_0,hcz13_1,hcz13_2,hcz13_3,hcz13_4,hcz13_5,hcz13_6,hfz13_0,hfz13_1,hfz13_2,hfz13_3,hfz13_4,hfz13_5,hfz13_6⟩ := zc7 BK672
     go_wp2_with (first | ((with_reducible refine gate_callee (f := 53) rfl ?_);refine zgl (some 5) Tryd.func53 #[.int .i64 a0_0,.int .i64 1,.int .i64 5] ?_;(with_reducible refine (spec_l01In.calls a0_0 1 5 true _ A4.out).mono ?_);rintro e w' ⟨rfl,⟨nd,rfl⟩⟩;refine ⟨_,rfl,?_⟩) | (go_at_call 53;(with_reducible refine (spec_l01In.calls a0_1 0 20 true _ A6.out).mono ?_);rintro e w' ⟨rfl,⟨nd,rfl⟩⟩) | (go_at_call 53;(with_reducible refine (spec_l01In.calls a0_3 0 6 false _ A8.out).mono ?_);rintro e w' ⟨rfl,⟨nd,rfl⟩⟩))
     go_meet
     case rel => exact ⟨_,(true),(by first | rfl | (simp;done) | (simp [*];done)),H',⟨by first | omega | exact Nat.le_refl _⟩,⟨by (with_reducible repeat (first | apply k1_ | apply k2_ | apply k3_));exact BK672.out⟩,⟨zl_ HB⟩⟩
   ·replace c7 := Bool.eq_false_iff.mpr c7
    subst c7
    have H1 : (spec_MessageOK.j0 k true a0_0 a0_1 a0_2 a0_3 a0_4 a0_5 a0_6) = some r := by rw [if_neg (show ¬ (false = true) by decide)] at H;exact H
    clear H
    have H := H1
    clear H1
    have H' := am_ H
    clear H
    obtain ⟨hcz14_0,hcz14_1,hcz14_2,hcz14_3,hcz14_4,hcz14_5,hcz14_6,hfz14_0,hfz14_1,hfz14_2,hfz14_3,hfz14_4,hfz14_5,hfz14_6⟩ := zc7 BK672
    go_wp2_with (first | ((with_reducible refine gate_callee (f := 53) rfl ?_);refine zgl (some 5) Tryd.func53 #[.int .i64 a0_0,.int .i64 1,.int .i64 5] ?_;(with_reducible refine (spec_l01In.calls a0_0 1 5 true _ A4.out).mono ?_);rintro e w' ⟨rfl,⟨nd,rfl⟩⟩;refine ⟨_,rfl,?_⟩) | (go_at_call 53;(with_reducible refine (spec_l01In.calls a0_1 0 20 false _ A6.out).mono ?_);rintro e w' ⟨rfl,⟨nd,rfl⟩⟩))
    go_meet
    case rel => exact ⟨_,(true),(by first | rfl | (simp;done) | (simp [*];done)),H',⟨by first | omega | exact Nat.le_refl _⟩,⟨by (with_reducible repeat (first | apply k1_ | apply k2_ | apply k3_));exact BK672.out⟩,⟨zl_ HB⟩⟩
  ·replace c5 := Bool.eq_false_iff.mpr c5
   subst c5
   have H1 : (spec_MessageOK.j0 k true a0_0 a0_1 a0_2 a0_3 a0_4 a0_5 a0_6) = some r := by rw [if_neg (show ¬ (false = true) by decide)] at H;exact H
   clear H
   have H := H1
   clear H1
   have H' := am_ H
   clear H
   obtain ⟨hcz15_0,hcz15_1,hcz15_2,hcz15_3,hcz15_4,hcz15_5,hcz15_6,hfz15_0,hfz15_1,hfz15_2,hfz15_3,hfz15_4,hfz15_5,hfz15_6⟩ := zc7 BK672
   go_wp2_with (first | ((with_reducible refine gate_callee (f := 53) rfl ?_);refine zgl (some 5) Tryd.func53 #[.int .i64 a0_0,.int .i64 1,.int .i64 5] ?_;(with_reducible refine (spec_l01In.calls a0_0 1 5 false _ A4.out).mono ?_);rintro e w' ⟨rfl,⟨nd,rfl⟩⟩;refine ⟨_,rfl,?_⟩))
   go_meet
   case rel => exact ⟨_,(true),(by first | rfl | (simp;done) | (simp [*];done)),H',⟨by first | omega | exact Nat.le_refl _⟩,⟨by (with_reducible repeat (first | apply k1_ | apply k2_ | apply k3_));exact BK672.out⟩,⟨zl_ HB⟩⟩
 case rest =>
  clear HC2
  try clear c1
  try clear p2
  try clear c5
  try clear c6
  try clear c7
  try clear c9
  try clear c10
  try clear c10b0
  try clear c10b1
  try clear hcz11_0
  try clear hcz11_1
  try clear hcz11_2
  try clear hcz11_3
  try clear hcz11_4
  try clear hcz11_5
  try clear hcz11_6
  try clear hcz12_0
  try clear hcz12_1
  try clear hcz12_2
  try clear hcz12_3
  try clear hcz12_4
  try clear hcz12_5
  try clear hcz12_6
  try clear hcz13_0
  try clear hcz13_1
  try clear hcz13_2
  try clear hcz13_3
  try clear hcz13_4
  try clear hcz13_5
  try clear hcz13_6
  try clear hcz14_0
  try clear hcz14_1
  try clear hcz14_2
  try clear hcz14_3
  try clear hcz14_4
  try clear hcz14_5
  try clear hcz14_6
  try clear hcz15_0
  try clear hcz15_1
  try clear hcz15_2
  try clear hcz15_3
  try clear hcz15_4
  try clear hcz15_5
  try clear hcz15_6
  try clear hfz11_0
  try clear hfz11_1
  try clear hfz11_2
  try clear hfz11_3
  try clear hfz11_4
  try clear hfz11_5
  try clear hfz11_6
  try clear hfz12_0
  try clear hfz12_1
  try clear hfz12_2
  try clear hfz12_3
  try clear hfz12_4
  try clear hfz12_5
  try clear hfz12_6
  try clear hfz13_0
  try clear hfz13_1
  try clear hfz13_2
  try clear hfz13_3
  try clear hfz13_4
  try clear hfz13_5
  try clear hfz13_6
  try clear hfz14_0
  try clear hfz14_1
  try clear hfz14_2
  try clear hfz14_3
  try clear hfz14_4
  try clear hfz14_5
  try clear hfz14_6
  try clear hfz15_0
  try clear hfz15_1
  try clear hfz15_2
  try clear hfz15_3
  try clear hfz15_4
  try clear hfz15_5
  try clear hfz15_6
  obtain ⟨kq,x30_1,rfl,HA,HJ1,BK672,HB⟩ := hcut
  cases kq with
  | zero => exact absurd HA.out (by simp [spec_MessageOK.j0])
  | succ kj1 =>
   have H := HA.out
   clear HA
   simp only [spec_MessageOK.j0] at H
   by_cases c16 : x30_1 = true
   ·subst c16
    have H1 : (some false) = some r := by rw [if_pos rfl] at H;exact H
    clear H
    have H := H1
    clear H1
    obtain rfl := Option.some.inj H
    go_wp2
    go_ret
    exact ⟨zt_,zl_ HB⟩
   ·replace c16 := Bool.eq_false_iff.mpr c16
    subst c16
    have H1 : (if a0_0 = 1 then ((spec_l01In.f a0_2 1 8).bind fun t676 => (if t676 = true then (if (a0_4.size : Int) = 32 then (some (a0_5.toList != ([] : List UInt8))) else (some false)) else (some false))) else (if a0_0 = 2 then ((spec_l01In.f a0_2 1 8).bind fun t677 => (if t677 = true then (if (a0_4.size : Int) = 32 then (some (a0_5.toList == ([] : List UInt8))) else (some false)) else (some false))) else (if a0_0 = 3 then ((spec_l01In.f a0_2 1 8).bind fun t678 => (if t678 = true then (if (a0_4.size : Int) = 32 then (some (a0_5.toList == ([] : List UInt8))) else (some false)) else (some false))) else (if a0_2 = 0 then (some (a0_4.toList == ([] : List UInt8))) else (some false))))) = some r := by rw [if_neg (show ¬ (false = true) by decide)] at H;exact H
    clear H
    have H := H1
    clear H1
    by_cases c17 : a0_0 = 1
    ·rw [if_pos c17] at H
     have c17b0 : (a0_0 == 1) = true := beq_iff_eq.mpr c17
     have c17b1 : (a0_0 != 1) = false := bne_eq_false_iff_eq.mpr c17
     clear c17
     replace H := Option.bind_eq_some_iff.mp H
     obtain ⟨t676,A180,H⟩ := H
     try dsimp only at H
     have A18 := am_ A180
     clear A180
     by_cases c19 : t676 = true
     ·subst c19
      have H1 : (if (a0_4.size : Int) = 32 then (some (a0_5.toList != ([] : List UInt8))) else (some false)) = some r := by rw [if_pos rfl] at H;exact H
      clear H
      have H := H1
      clear H1
      by_cases c20 : (a0_4.size : Int) = 32
      ·rw [if_pos c20] at H
       have c20b0 : ((a0_4.size : Int) == 32) = true := beq_iff_eq.mpr c20
       have c20b1 : ((a0_4.size : Int) != 32) = false := bne_eq_false_iff_eq.mpr c20
       clear c20
       obtain rfl := Option.some.inj H
       obtain ⟨hcz21_0,hcz21_1,hcz21_2,hcz21_3,hcz21_4,hcz21_5,hcz21_6,hfz21_0,hfz21_1,hfz21_2,hfz21_3,hfz21_4,hfz21_5,hfz21_6⟩ := zc7 BK672
       go_wp2_with (first | ((with_reducible refine gate_callee (f := 53) rfl ?_);refine zgl (some 37) Tryd.func53 #[.int .i64 a0_2,.int .i64 1,.int .i64 8] ?_;(with_reducible refine (spec_l01In.calls a0_2 1 8 true _ A18.out).mono ?_);rintro e w' ⟨rfl,⟨nd,rfl⟩⟩;refine ⟨_,rfl,?_⟩))
       go_ret
       exact ⟨zt_,zl_ HB⟩
      ·rw [if_neg c20] at H
       have c20b0 : ((a0_4.size : Int) == 32) = false := beq_eq_false_iff_ne.mpr c20
       have c20b1 : ((a0_4.size : Int) != 32) = true := bne_iff_ne.mpr c20
       obtain rfl := Option.some.inj H
       obtain ⟨hcz22_0,hcz22_1,hcz22_2,hcz22_3,hcz22_4,hcz22_5,hcz22_6,hfz22_0,hfz22_1,hfz22_2,hfz22_3,hfz22_4,hfz22_5,hfz22_6⟩ := zc7 BK672
       go_wp2_with (first | ((with_reducible refine gate_callee (f := 53) rfl ?_);refine zgl (some 37) Tryd.func53 #[.int .i64 a0_2,.int .i64 1,.int .i64 8] ?_;(with_reducible refine (spec_l01In.calls a0_2 1 8 true _ A18.out).mono ?_);rintro e w' ⟨rfl,⟨nd,rfl⟩⟩;refine ⟨_,rfl,?_⟩))
       go_ret
       exact ⟨zt_,zl_ HB⟩
     ·replace c19 := Bool.eq_false_iff.mpr c19
      subst c19
      have H1 : (some false) = some r := by rw [if_neg (show ¬ (false = true) by decide)] at H;exact H
      clear H
      have H := H1
      clear H1
      obtain rfl := Option.some.inj H
      obtain ⟨hcz23_0,hcz23_1,hcz23_2,hcz23_3,hcz23_4,hcz23_5,hcz23_6,hfz23_0,hfz23_1,hfz23_2,hfz23_3,hfz23_4,hfz23_5,hfz23_6⟩ := zc7 BK672
      go_wp2_with (first | ((with_reducible refine gate_callee (f := 53) rfl ?_);refine zgl (some 37) Tryd.func53 #[.int .i64 a0_2,.int .i64 1,.int .i64 8] ?_;(with_reducible refine (spec_l01In.calls a0_2 1 8 false _ A18.out).mono ?_);rintro e w' ⟨rfl,⟨nd,rfl⟩⟩;refine ⟨_,rfl,?_⟩))
      go_ret
      exact ⟨zt_,zl_ HB⟩
    ·rw [if_neg c17] at H
     have c17b0 : (a0_0 == 1) = false := beq_eq_false_iff_ne.mpr c17
     have c17b1 : (a0_0 != 1) = true := bne_iff_ne.mpr c17
     by_cases c24 : a0_0 = 2
     ·rw [if_pos c24] at H
      have c24b0 : (a0_0 == 2) = true := beq_iff_eq.mpr c24
      have c24b1 : (a0_0 != 2) = false := bne_eq_false_iff_eq.mpr c24
      clear c24
      replace H := Option.bind_eq_some_iff.mp H
      obtain ⟨t677,A250,H⟩ := H
      try dsimp only at H
      have A25 := am_ A250
      clear A250
      by_cases c26 : t677 = true
      ·subst c26
       have H1 : (if (a0_4.size : Int) = 32 then (some (a0_5.toList == ([] : List UInt8))) else (some false)) = some r := by rw [if_pos rfl] at H;exact H
       clear H
       have H := H1
       clear H1
       by_cases c27 : (a0_4.size : Int) = 32
       ·rw [if_pos c27] at H
        have c27b0 : ((a0_4.size : Int) == 32) = true := beq_iff_eq.mpr c27
        have c27b1 : ((a0_4.size : Int) != 32) = false := bne_eq_false_iff_eq.mpr c27
        clear c27
        obtain rfl := Option.some.inj H
        obtain ⟨hcz28_0,hcz28_1,hcz28_2,hcz28_3,hcz28_4,hcz28_5,hcz28_6,hfz28_0,hfz28_1,hfz28_2,hfz28_3,hfz28_4,hfz28_5,hfz28_6⟩ := zc7 BK672
        go_wp2_with (first | ((with_reducible refine gate_callee (f := 53) rfl ?_);refine zgl (some 54) Tryd.func53 #[.int .i64 a0_2,.int .i64 1,.int .i64 8] ?_;(with_reducible refine (spec_l01In.calls a0_2 1 8 true _ A25.out).mono ?_);rintro e w' ⟨rfl,⟨nd,rfl⟩⟩;refine ⟨_,rfl,?_⟩))
        go_ret
        exact ⟨zt_,zl_ HB⟩
       ·rw [if_neg c27] at H
        have c27b0 : ((a0_4.size : Int) == 32) = false := beq_eq_false_iff_ne.mpr c27
        have c27b1 : ((a0_4.size : Int) != 32) = true := bne_iff_ne.mpr c27
        obtain rfl := Option.some.inj H
        obtain ⟨hcz29_0,hcz29_1,hcz29_2,hcz29_3,hcz29_4,hcz29_5,hcz29_6,hfz29_0,hfz29_1,hfz29_2,hfz29_3,hfz29_4,hfz29_5,hfz29_6⟩ := zc7 BK672
        go_wp2_with (first | ((with_reducible refine gate_callee (f := 53) rfl ?_);refine zgl (some 54) Tryd.func53 #[.int .i64 a0_2,.int .i64 1,.int .i64 8] ?_;(with_reducible refine (spec_l01In.calls a0_2 1 8 true _ A25.out).mono ?_);rintro e w' ⟨rfl,⟨nd,rfl⟩⟩;refine ⟨_,rfl,?_⟩))
        go_ret
        exact ⟨zt_,zl_ HB⟩
      ·replace c26 := Bool.eq_false_iff.mpr c26
       subst c26
       have H1 : (some false) = some r := by rw [if_neg (show ¬ (false = true) by decide)] at H;exact H
       clear H
       have H := H1
       clear H1
       obtain rfl := Option.some.inj H
       obtain ⟨hcz30_0,hcz30_1,hcz30_2,hcz30_3,hcz30_4,hcz30_5,hcz30_6,hfz30_0,hfz30_1,hfz30_2,hfz30_3,hfz30_4,hfz30_5,hfz30_6⟩ := zc7 BK672
       go_wp2_with (first | ((with_reducible refine gate_callee (f := 53) rfl ?_);refine zgl (some 54) Tryd.func53 #[.int .i64 a0_2,.int .i64 1,.int .i64 8] ?_;(with_reducible refine (spec_l01In.calls a0_2 1 8 false _ A25.out).mono ?_);rintro e w' ⟨rfl,⟨nd,rfl⟩⟩;refine ⟨_,rfl,?_⟩))
       go_ret
       exact ⟨zt_,zl_ HB⟩
     ·rw [if_neg c24] at H
      have c24b0 : (a0_0 == 2) = false := beq_eq_false_iff_ne.mpr c24
      have c24b1 : (a0_0 != 2) = true := bne_iff_ne.mpr c24
      by_cases c31 : a0_0 = 3
      ·rw [if_pos c31] at H
       have c31b0 : (a0_0 == 3) = true := beq_iff_eq.mpr c31
       have c31b1 : (a0_0 != 3) = false := bne_eq_false_iff_eq.mpr c31
       clear c31
       replace H := Option.bind_eq_some_iff.mp H
       obtain ⟨t678,A320,H⟩ := H
       try dsimp only at H
       have A32 := am_ A320
       clear A320
       by_cases c33 : t678 = true
       ·subst c33
        have H1 : (if (a0_4.size : Int) = 32 then (some (a0_5.toList == ([] : List UInt8))) else (some false)) = some r := by rw [if_pos rfl] at H;exact H
        clear H
        have H := H1
        clear H1
        by_cases c34 : (a0_4.size : Int) = 32
        ·rw [if_pos c34] at H
         have c34b0 : ((a0_4.size : Int) == 32) = true := beq_iff_eq.mpr c34
         have c34b1 : ((a0_4.size : Int) != 32) = false := bne_eq_false_iff_eq.mpr c34
         clear c34
         obtain rfl := Option.some.inj H
         obtain ⟨hcz35_0,hcz35_1,hcz35_2,hcz35_3,hcz35_4,hcz35_5,hcz35_6,hfz35_0,hfz35_1,hfz35_2,hfz35_3,hfz35_4,hfz35_5,hfz35_6⟩ := zc7 BK672
         go_wp2_with (first | ((with_reducible refine gate_callee (f := 53) rfl ?_);refine zgl (some 54) Tryd.func53 #[.int .i64 a0_2,.int .i64 1,.int .i64 8] ?_;(with_reducible refine (spec_l01In.calls a0_2 1 8 true _ A32.out).mono ?_);rintro e w' ⟨rfl,⟨nd,rfl⟩⟩;refine ⟨_,rfl,?_⟩))
         go_ret
         exact ⟨zt_,zl_ HB⟩
        ·rw [if_neg c34] at H
         have c34b0 : ((a0_4.size : Int) == 32) = false := beq_eq_false_iff_ne.mpr c34
         have c34b1 : ((a0_4.size : Int) != 32) = true := bne_iff_ne.mpr c34
         obtain rfl := Option.some.inj H
         obtain ⟨hcz36_0,hcz36_1,hcz36_2,hcz36_3,hcz36_4,hcz36_5,hcz36_6,hfz36_0,hfz36_1,hfz36_2,hfz36_3,hfz36_4,hfz36_5,hfz36_6⟩ := zc7 BK672
         go_wp2_with (first | ((with_reducible refine gate_callee (f := 53) rfl ?_);refine zgl (some 54) Tryd.func53 #[.int .i64 a0_2,.int .i64 1,.int .i64 8] ?_;(with_reducible refine (spec_l01In.calls a0_2 1 8 true _ A32.out).mono ?_);rintro e w' ⟨rfl,⟨nd,rfl⟩⟩;refine ⟨_,rfl,?_⟩))
         go_ret
         exact ⟨zt_,zl_ HB⟩
       ·replace c33 := Bool.eq_false_iff.mpr c33
        subst c33
        have H1 : (some false) = some r := by rw [if_neg (show ¬ (false = true) by decide)] at H;exact H
        clear H
        have H := H1
        clear H1
        obtain rfl := Option.some.inj H
        obtain ⟨hcz37_0,hcz37_1,hcz37_2,hcz37_3,hcz37_4,hcz37_5,hcz37_6,hfz37_0,hfz37_1,hfz37_2,hfz37_3,hfz37_4,hfz37_5,hfz37_6⟩ := zc7 BK672
        go_wp2_with (first | ((with_reducible refine gate_callee (f := 53) rfl ?_);refine zgl (some 54) Tryd.func53 #[.int .i64 a0_2,.int .i64 1,.int .i64 8] ?_;(with_reducible refine (spec_l01In.calls a0_2 1 8 false _ A32.out).mono ?_);rintro e w' ⟨rfl,⟨nd,rfl⟩⟩;refine ⟨_,rfl,?_⟩))
        go_ret
        exact ⟨zt_,zl_ HB⟩
      ·rw [if_neg c31] at H
       have c31b0 : (a0_0 == 3) = false := beq_eq_false_iff_ne.mpr c31
       have c31b1 : (a0_0 != 3) = true := bne_iff_ne.mpr c31
       by_cases c38 : a0_2 = 0
       ·rw [if_pos c38] at H
        have c38b0 : (a0_2 == 0) = true := beq_iff_eq.mpr c38
        have c38b1 : (a0_2 != 0) = false := bne_eq_false_iff_eq.mpr c38
        clear c38
        obtain rfl := Option.some.inj H
        obtain ⟨hcz39_0,hcz39_1,hcz39_2,hcz39_3,hcz39_4,hcz39_5,hcz39_6,hfz39_0,hfz39_1,hfz39_2,hfz39_3,hfz39_4,hfz39_5,hfz39_6⟩ := zc7 BK672
        go_wp2
        go_ret
        exact ⟨zt_,zl_ HB⟩
       ·rw [if_neg c38] at H
        have c38b0 : (a0_2 == 0) = false := beq_eq_false_iff_ne.mpr c38
        have c38b1 : (a0_2 != 0) = true := bne_iff_ne.mpr c38
        obtain rfl := Option.some.inj H
        obtain ⟨hcz40_0,hcz40_1,hcz40_2,hcz40_3,hcz40_4,hcz40_5,hcz40_6,hfz40_0,hfz40_1,hfz40_2,hfz40_3,hfz40_4,hfz40_5,hfz40_6⟩ := zc7 BK672
        go_wp2
        go_ret
        exact ⟨zt_,zl_ HB⟩
def spec_l02Plain.T2 : Bool × List (List Nat × List Nat) := (true,[([],[]),([],[]),([1],[1]),([0,2],[0,2]),([],[]),([4],[4]),([5],[5]),([6,3],[6]),([3,7,7],[3,7]),([8,8,0,1,2,3,4,5,6,7,8],[0,8])])
def spec_l02Plain.B2 : List Nat := [0,0,2,7,0,16,48,127,255,511]
theorem spec_l02Plain.tab2 : rtab .any (opsOf Tryd.f129 2) = spec_l02Plain.T2 := by kernel_rfl
theorem spec_l02Plain.bits2 : waitsOk spec_l02Plain.T2.2 spec_l02Plain.B2 = true := by kernel_rfl
set_option maxHeartbeats 8000000 in
set_option maxRecDepth 100000 in
theorem spec_l02Plain.calls (k : Nat) (a0_0 : Int) (a0_1 : Int) (a0_2 : Int) (a0_3 : Int) (a0_4 : ByteArray) (a0_5 : ByteArray) (a0_6 : ByteArray) (r : List Int) (w : World) (h : spec_l02Plain.f k a0_0 a0_1 a0_2 a0_3 a0_4 a0_5 a0_6 = some r) :
  Calls Tryd.prog 129 #[.agg #[.int .i64 a0_0,.int .i64 a0_1,.int .i64 a0_2,.int .i64 a0_3,.string a0_4,.string a0_5,.string a0_6]] w fun e w' => ∃ v0_ : Value,e = .returned (v0_) ∧ Kd.R (Kd.int .u8) 5 w' w.heap.size (fun _ => True) v0_ r ∧ Below w.heap.size w w' := by
 have hu33 := Tryd.underlying33
 have HB := am_ (Below.refl w.heap.size w)
 have H : ((some (([(a0_0) % 256,(a0_1) % 256,(a0_2) % 256,(a0_3) % 256,((a0_4.size : Int)) % 256] : List Int) : List Int)).bind fun y687 => (if y687.length + a0_4.size < 140737488355328 then ((some (y687 ++ bytesOf a0_4 : List Int)).bind fun y690 => ((spec_l02Number.f k (a0_5.size : Int) 2).bind fun t693 => (if y690.length + t693.length < 140737488355328 then ((some (y690 ++ t693 : List Int)).bind fun y696 => (if y696.length + a0_5.size < 140737488355328 then (some (y696 ++ bytesOf a0_5)) else (none))) else (none)))) else (none))) = some r := h
 clear h
 obtain ⟨y687,hy687⟩ : ∃ y_ : List Int,y_ = (([(a0_0) % 256,(a0_1) % 256,(a0_2) % 256,(a0_3) % 256,((a0_4.size : Int)) % 256] : List Int)) := ⟨_,rfl⟩
 replace H : (if y687.length + a0_4.size < 140737488355328 then ((some (y687 ++ bytesOf a0_4 : List Int)).bind fun y690 => ((spec_l02Number.f k (a0_5.size : Int) 2).bind fun t693 => (if y690.length + t693.length < 140737488355328 then ((some (y690 ++ t693 : List Int)).bind fun y696 => (if y696.length + a0_5.size < 140737488355328 then (some (y696 ++ bytesOf a0_5)) else (none))) else (none)))) else (none)) = some r := by first | (rw [hy687];with_reducible exact H) | (have H2_ := (Option.bind_some _ _).symm.trans H;rw [hy687];with_reducible exact H2_) | (have H2_ := (Option.bind_some _ _).symm.trans H;with_reducible exact H2_) | with_reducible exact H | (rw [hy687];exact H) | exact H
 have Ny687 := am_ hy687
 clear hy687
 by_cases c2 : y687.length + a0_4.size < 140737488355328
 ·rw [if_pos c2] at H
  have LMc2 := am_ c2
  clear c2
  obtain ⟨y690,hy690⟩ : ∃ y_ : List Int,y_ = (y687 ++ bytesOf a0_4) := ⟨_,rfl⟩
  replace H : ((spec_l02Number.f k (a0_5.size : Int) 2).bind fun t693 => (if y690.length + t693.length < 140737488355328 then ((some (y690 ++ t693 : List Int)).bind fun y696 => (if y696.length + a0_5.size < 140737488355328 then (some (y696 ++ bytesOf a0_5)) else (none))) else (none))) = some r := by first | (rw [hy690];with_reducible exact H) | (have H2_ := (Option.bind_some _ _).symm.trans H;rw [hy690];with_reducible exact H2_) | (have H2_ := (Option.bind_some _ _).symm.trans H;with_reducible exact H2_) | with_reducible exact H | (rw [hy690];exact H) | exact H
  have Ny690 := am_ hy690
  clear hy690
  replace H := Option.bind_eq_some_iff.mp H
  obtain ⟨t693,A30,H⟩ := H
  try dsimp only at H
  have A3 := am_ A30
  clear A30
  by_cases c4 : y690.length + t693.length < 140737488355328
  ·rw [if_pos c4] at H
   have LMc4 := am_ c4
   clear c4
   obtain ⟨y696,hy696⟩ : ∃ y_ : List Int,y_ = (y690 ++ t693) := ⟨_,rfl⟩
   replace H : (if y696.length + a0_5.size < 140737488355328 then (some (y696 ++ bytesOf a0_5)) else (none)) = some r := by first | (rw [hy696];with_reducible exact H) | (have H2_ := (Option.bind_some _ _).symm.trans H;rw [hy696];with_reducible exact H2_) | (have H2_ := (Option.bind_some _ _).symm.trans H;with_reducible exact H2_) | with_reducible exact H | (rw [hy696];exact H) | exact H
   have Ny696 := am_ hy696
   clear hy696
   by_cases c5 : y696.length + a0_5.size < 140737488355328
   ·rw [if_pos c5] at H
    have LMc5 := am_ c5
    clear c5
    obtain ⟨y699,hy699⟩ : ∃ y_ : List Int,y_ = (y696 ++ bytesOf a0_5) := ⟨_,rfl⟩
    replace H : (some y699) = some r := by first | (rw [hy699];with_reducible exact H) | (have H2_ := (Option.bind_some _ _).symm.trans H;rw [hy699];with_reducible exact H2_) | (have H2_ := (Option.bind_some _ _).symm.trans H;with_reducible exact H2_) | with_reducible exact H | (rw [hy699];exact H) | exact H
    have Ny699 := am_ hy699
    clear hy699
    obtain rfl := Option.some.inj H
    go_enter Tryd.func129,Tryd.ntmps129
    try go_wp2_with (first | ((with_reducible refine gate_dst (N := 1) rfl ?_);refine zbx (N := 1) (cs := #[.int .i64 a0_0,.int .i64 a0_1,.int .i64 a0_2,.int .i64 a0_3,.string a0_4,.string a0_5,.string a0_6]) (t := 33) ?_;intro gb686 hg w6 hbox hb;have BK686 := am_ (hbox);have GW686 := zw_ HB hg;have GE686 := zw_ HB hg;replace HB := zs_ HB hb;clear hb hbox hg;obtain ⟨hcz7_0,hcz7_1,hcz7_2,hcz7_3,hcz7_4,hcz7_5,hcz7_6,hfz7_0,hfz7_1,hfz7_2,hfz7_3,hfz7_4,hfz7_5,hfz7_6⟩ := zc7 BK686) | ((with_reducible refine gate_dst (N := 20) rfl ?_);refine Kd.R_lit (Kd.int .u8) _ 5 ?hg (N := 20) ?hd (xs := ([(a0_0) % 256,(a0_1) % 256,(a0_2) % 256,(a0_3) % 256,((a0_4.size : Int)) % 256] : List Int)) (inner := [.int .u8 ((a0_0) % 256),.int .u8 ((a0_1) % 256),.int .u8 ((a0_2) % 256),.int .u8 ((a0_3) % 256),.int .u8 (((a0_4.size : Int)) % 256)]) (ok := fun _ => True) (okp := fun _ => True) ?hr ?hp (fun _ hk => hk) trivial (Below.refl _ _) (Nat.le_refl _) (by simp) ?_;(case hd => rfl);(case hg => rfl);(case hr => first | (go_simp;done) | (go_simp;rfl));(case hp => exact (Reps.one (show Kd.M (Kd.int .u8) _ _ _ ((a0_0) % 256) [.int .u8 ((a0_0) % 256)] from rfl) (Reps.one (show Kd.M (Kd.int .u8) _ _ _ ((a0_1) % 256) [.int .u8 ((a0_1) % 256)] from rfl) (Reps.one (show Kd.M (Kd.int .u8) _ _ _ ((a0_2) % 256) [.int .u8 ((a0_2) % 256)] from rfl) (Reps.one (show Kd.M (Kd.int .u8) _ _ _ ((a0_3) % 256) [.int .u8 ((a0_3) % 256)] from rfl) (Reps.one (show Kd.M (Kd.int .u8) _ _ _ (((a0_4.size : Int)) % 256) [.int .u8 (((a0_4.size : Int)) % 256)] from rfl) (Reps.none _ _)))))));intro v688 w8 ho9 hb hg_ hnew_;clear hg_ hnew_;(first | rw [← Ny687.out] at ho9 | (simp only [Int.reduceToNat] at ho9;rw [← Ny687.out] at ho9));have HO689 := am_ (Kd.R_lower ho9 (below_size (zl_ HB)));replace BK686 := zb BK686 hb;replace HB := zs_ HB hb;clear hb ho9))
    replace HO689 := am_ (Kd.R_drew HO689.out)
    replace BK686 := am_ (blk_drew BK686.out)
    replace HB := am_ (below_drew1 HB.out)
    refine start_ (n := 10) (S := fun w' => w'.cell? ⟨gb686,0,none⟩ = some (.int .i64 a0_0) ∧ w'.cell? ⟨gb686,1,none⟩ = some (.int .i64 a0_1) ∧ w'.cell? ⟨gb686,2,none⟩ = some (.int .i64 a0_2) ∧ w'.cell? ⟨gb686,3,none⟩ = some (.int .i64 a0_3) ∧ w'.cell? ⟨gb686,4,none⟩ = some (.string a0_4) ∧ w'.cell? ⟨gb686,5,none⟩ = some (.string a0_5) ∧ w'.cell? ⟨gb686,6,none⟩ = some (.string a0_6)) (ds := []) #[false,false,false,false,false,false,false,false,false,false] (by kernel_rfl) rfl rfl ⟨(blk_cell BK686.out 0).trans rfl,(blk_cell BK686.out 1).trans rfl,(blk_cell BK686.out 2).trans rfl,(blk_cell BK686.out 3).trans rfl,(blk_cell BK686.out 4).trans rfl,(blk_cell BK686.out 5).trans rfl,(blk_cell BK686.out 6).trans rfl⟩ (fun hHeld => ?_);refine with_tabW spec_l02Plain.tab2 spec_l02Plain.bits2 (fun HT_ HW_ => ?_)
    generalize w8.drew = w10 at HO689 BK686 HB hHeld ⊢
    refine zpu 0 (N := some 21) HT_ ?_
    refine zpu 1 (N := some 22) HT_ ?_
    refine zpu 4 (N := some 25) HT_ ?_
    refine ztk 2 (N := some 23) HT_ HW_ hHeld ?_
    refine ztk 5 (N := some 26) HT_ HW_ hHeld ?_
    refine zpu 6 (N := some 27) HT_ ?_
    refine zon 3 (N := some 24) HT_ (fun K hK => ?_)
    refine Kd.R_append_str_step (Kd.int .u8) rfl (w0 := w) w.heap.size (by rfl) (.tmp 21) _ 31 9 5 rfl Tryd.underlying31 Tryd.underlying9 info5 v688 y687 a0_4 (fun _ => True) rfl rfl ?aO ?aF ?aB ?aS ?aL ?_
    (case aB => exact (zl_ HB))
    (case aF => exact (fun _ _ => trivial))
    (case aO => exact (zr HO689))
    (case aS => exact (below_size (zl_ HB)))
    (case aL => have := LMc2.out;omega)
    intro v691 w11 ho hb hg hat
    rw [← Ny690.out] at ho
    replace BK686 := am_ (blk_grown (g := gb686) (o := .cells #[.int .i64 a0_0,.int .i64 a0_1,.int .i64 a0_2,.int .i64 a0_3,.string a0_4,.string a0_5,.string a0_6] 33 (0,0)) (zk BK686) hg (Kd.R_ne HO689.out BK686.out (by decide)))
    replace HB := am_ (hb)
    have HO692 := am_ (ho)
    clear HO689
    clear ho hb hg hat
    refine hK.out _ _ ⟨(blk_cell BK686.out 0).trans rfl,(blk_cell BK686.out 1).trans rfl,(blk_cell BK686.out 2).trans rfl,(blk_cell BK686.out 3).trans rfl,(blk_cell BK686.out 4).trans rfl,(blk_cell BK686.out 5).trans rfl,(blk_cell BK686.out 6).trans rfl⟩ (fun hHeld => ?_)
    clear hK K
    refine norm_ (a' := ?_) ?_ ?_
    rotate_left
    ·show Act.put _ (some 24) _ = _
     simp only [Act.put,p1_,p2_,p3_,i64_w,i32_w]
     rfl
    refine zon 7 (N := some 28) HT_ (fun K hK => ?_)
    refine zgo Tryd.func172 #[.int .i64 (a0_5.size : Int),.int .i64 2] ?_
    with_reducible refine (spec_l02Number.calls k (a0_5.size : Int) 2 t693 _ A3.out).mono ?_
    rintro e w12 ⟨v694,rfl,ho0,hb⟩
    refine ⟨_,rfl,?_⟩
    have HO695 := am_ (Kd.R_lower (Kd.R_new' ho0 (Kd.R_lt (zr HO692))) (below_size (zl_ HB)))
    replace HO692 := am_ (Kd.R_elder' (zr HO692) (Kd.R_base ho0) hb)
    replace BK686 := zb BK686 hb
    replace HB := zs_ HB hb
    (try clear hb)
    (try clear hb2)
    (try clear hk)
    (try clear hi)
    (try clear ho0)
    obtain ⟨Ao14,co14,eo14⟩ := Kd.R_slice HO695.out
    (first | subst eo14 | (injection eo14 with f1_ f2_ f3_;have f4_ := f1_.symm;have f5_ := f3_.symm;clear f1_ f2_ f3_;subst f4_;subst f5_))
    refine hK.out _ _ ⟨(blk_cell BK686.out 0).trans rfl,(blk_cell BK686.out 1).trans rfl,(blk_cell BK686.out 2).trans rfl,(blk_cell BK686.out 3).trans rfl,(blk_cell BK686.out 4).trans rfl,(blk_cell BK686.out 5).trans rfl,(blk_cell BK686.out 6).trans rfl⟩ (fun hHeld => ?_)
    clear hK K
    refine norm_ (a' := ?_) ?_ ?_
    rotate_left
    ·show Act.put _ (some 28) _ = _
     simp only [Act.put,p1_,p2_,p3_,i64_w,i32_w]
     rfl
    refine zon 8 (N := some 29) HT_ (fun K hK => ?_)
    refine Kd.R_append_rows_step (Kd.int .u8) (w0 := w) w.heap.size (by rfl) (.tmp 24) (.tmp 28) 31 5 (.int .u8 0) 1 rfl Tryd.underlying31 info5 rfl (by decide) (by omega) v691 y690 t693 _ _ _ (fun k_ => some k_ ≠ (.slice Ao14 t693.length co14 : Value).ownBlock) (fun _ => False) rfl rfl ?aO ?aR (fun _ _ h => h) (fun _ h => h.elim) ?aF ?aB ?aS ?aL ?_
    (case aR => repeat (first | exact (Kd.R_reads' HO695.out).2.2 | (with_reducible refine Kd.C_alloc ?_ _) | (with_reducible refine Kd.C_drewN ?_ _) | (with_reducible refine Kd.C_drew ?_)))
    (case aB => exact (zl_ HB))
    (case aF => exact (fun k_ hk => Kd.fresh' (Kd.R_lt (zr HO695)) k_ hk))
    (case aO => exact (by (with_reducible repeat (first | apply r1_ | apply r2_ | apply r3_));exact Kd.R_mono HO692.out (fun _ hk => hk.2)))
    (case aS => exact (below_size (zl_ HB)))
    (case aL => have := LMc4.out;omega)
    intro v697 w13 ho hb hg hat
    rw [← Ny696.out] at ho
    replace BK686 := am_ (blk_grown (g := gb686) (o := .cells #[.int .i64 a0_0,.int .i64 a0_1,.int .i64 a0_2,.int .i64 a0_3,.string a0_4,.string a0_5,.string a0_6] 33 (0,0)) (zk BK686) hg (Kd.R_ne HO692.out BK686.out (by decide)))
    replace HO695 := am_ (Kd.R_after (ok := (fun _ => True)) (zr HO695) hg hat)
    replace HB := am_ (hb)
    have HO698 := am_ (ho)
    clear HO692
    clear ho hb hg hat
    refine hK.out _ _ ⟨(blk_cell BK686.out 0).trans rfl,(blk_cell BK686.out 1).trans rfl,(blk_cell BK686.out 2).trans rfl,(blk_cell BK686.out 3).trans rfl,(blk_cell BK686.out 4).trans rfl,(blk_cell BK686.out 5).trans rfl,(blk_cell BK686.out 6).trans rfl⟩ (fun hHeld => ?_)
    clear hK K
    refine norm_ (a' := ?_) ?_ ?_
    rotate_left
    ·show Act.put _ (some 29) _ = _
     simp only [Act.put,p1_,p2_,p3_,i64_w,i32_w]
     rfl
    refine zpu 9 (N := some 3) HT_ ?_
    refine done_ (done_of HT_.out (by kernel_rfl)) ?_
    obtain ⟨hcz15_0,hcz15_1,hcz15_2,hcz15_3,hcz15_4,hcz15_5,hcz15_6,hfz15_0,hfz15_1,hfz15_2,hfz15_3,hfz15_4,hfz15_5,hfz15_6⟩ := zc7 BK686
    try go_wp2_with (first | (at_builtin;refine Kd.R_append_str (Kd.int .u8) rfl (w0 := w) w.heap.size rfl (.tmp 30) _ 31 9 5 rfl Tryd.underlying31 Tryd.underlying9 info5 v697 y696 a0_5 (fun k_ => some k_ ≠ (.slice Ao14 t693.length co14 : Value).ownBlock) rfl rfl ?aO ?aF ?aB ?aS ?aL ?_;(case aB => exact (zl_ HB));(case aF => exact (fun k_ hk => Kd.fresh' (Kd.R_lt (zr HO695)) k_ hk));(case aO => exact (zr HO698));(case aS => exact (below_size (zl_ HB)));(case aL => have := LMc5.out;omega);intro v700 w16 ho hb hg hat;rw [← Ny699.out] at ho;replace HB := am_ (hb);have HO701 := am_ (ho);clear HO698;clear ho hb hg hat))
    go_ret
    exact ⟨_,zt_,by (with_reducible repeat (first | apply r1_ | apply r2_ | apply r3_));exact Kd.R_mono HO701.out (fun _ hk => trivial),zl_ HB⟩
   ·rw [if_neg c5] at H
    exact absurd H (by simp)
  ·rw [if_neg c4] at H
   exact absurd H (by simp)
 ·rw [if_neg c2] at H
  exact absurd H (by simp)
end Go.Proofs.YtadablpppkjdbaaDoor.A
end
