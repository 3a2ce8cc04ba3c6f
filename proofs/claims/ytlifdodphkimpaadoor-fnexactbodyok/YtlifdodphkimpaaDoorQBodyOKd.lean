/- A part of the proof that FnExactBodyOK returns true at every input: plain functions, contracts and lemmas. No conditions. -/
import Derived.Test.YtlifdodphkimpaaDoorQBodyOKc
set_option linter.unusedVariables false
set_option linter.unusedSimpArgs false
set_option linter.unusedSectionVars false
section
namespace Go.Proofs.YtlifdodphkimpaaDoor.C
open Go.RowKit Go.Proofs.YtlifdodphkimpaaDoorW.PrintWords Go.Proofs.YtlifdodphkimpaaDoorW.PrintLast Go.Proofs.YtlifdodphkimpaaDoorW.PrintMore
set_option maxHeartbeats 4000000 in
set_option maxRecDepth 100000 in
theorem block_walk (h0 h1 h2 h3 h4 h5 h6 h7 : Int) (gb ob cb : Nat) (bs ks r : List Int) (w : World) (hgb : gb < w.heap.size) (hbl : bs.length = 64) (hob : ob < 1000000000000)
    (hb : ∀ j, j < 64 → w.cell? ⟨gb, ob + j, none⟩ = some (.int .u8 (bs.getD j 0))) (hL : ∀ j, j < 64 → w.cell? ⟨0, j, none⟩ = some (.int .u32 (ks.getD j 0))) (hkl : ks.length = 64) (H : spec_l01Block.v [h0, h1, h2, h3, h4, h5, h6, h7] bs ks = some r) :
    Calls Tryd.prog 160 #[.agg #[.int .u32 h0, .int .u32 h1, .int .u32 h2, .int .u32 h3, .int .u32 h4, .int .u32 h5, .int .u32 h6, .int .u32 h7], .slice (some ⟨gb, ob, none⟩) 64 cb] w fun e w' => e = .returned (.agg (r.map (Value.int .u32)).toArray) ∧ Below w.heap.size w w' ∧ r.length = 8 := by
  have HB := Aside0.mk hb
  have HL := Aside0.mk hL
  clear hb hL
  have H0 := Aside0.mk (start0 _ _ _ _ H)
  clear H
  go_enter Tryd.func160, Tryd.ntmps160
  go_wp2
  generalize hn : w.heap.size = n at *
  generalize hW : World.alloc _ _ = W3
  have F := Aside0.mk (show Bk w W3 n [h0, h1, h2, h3, h4, h5, h6, h7] (List.replicate 8 0) (List.replicate 64 0) from by subst hn; subst hW; exact Bk.start w [h0, h1, h2, h3, h4, h5, h6, h7] (List.replicate 8 0) (List.replicate 64 0) 178 178 193)
  clear hW
  simp only [Nat.add_assoc, Nat.reduceAdd]
  go_loopg [16] 16 (fun gg v16 wr => ∃ (i : Nat) (ws : List Int), i ≤ 16 ∧ gg + i = 16 ∧ v16 = .int .i64 (i : Int) ∧ ws.length = 64 ∧ Aside0 (spec_l01Block.lv0 [h0, h1, h2, h3, h4, h5, h6, h7] bs ks ws (i : Int) = some r) ∧ Aside0 (Bk w wr n [h0, h1, h2, h3, h4, h5, h6, h7] (List.replicate 8 0) ws))
  case atStart => exact ⟨0, _, by omega, rfl, rfl, List.length_replicate, H0, F⟩
  case round =>
    clear F H0
    obtain ⟨i, ws, hi, hg, rfl, hws, H0, F⟩ := hrel
    by_cases hlt : i < 16
    · have c1 : ((i : Int) < 16) := by omega
      obtain ⟨q0, hq0⟩ : ∃ q, q = 4 * i := ⟨_, rfl⟩
      obtain ⟨q1, hq1⟩ : ∃ q, q = 4 * i + 1 := ⟨_, rfl⟩
      obtain ⟨q2, hq2⟩ : ∃ q, q = 4 * i + 2 := ⟨_, rfl⟩
      obtain ⟨q3, hq3⟩ : ∃ q, q = 4 * i + 3 := ⟨_, rfl⟩
      have w0 : IntKind.i64.wrap (4 * (i : Int)) = (q0 : Int) := (w64id _ (by omega) (by omega)).trans (by omega)
      have w1 : IntKind.i64.wrap ((q0 : Int) + 1) = (q1 : Int) := (w64id _ (by omega) (by omega)).trans (by omega)
      have w2 : IntKind.i64.wrap ((q0 : Int) + 2) = (q2 : Int) := (w64id _ (by omega) (by omega)).trans (by omega)
      have w3 : IntKind.i64.wrap ((q0 : Int) + 3) = (q3 : Int) := (w64id _ (by omega) (by omega)).trans (by omega)
      have b0 := F.out.old hgb (HB.out q0 (by omega))
      have b1 := F.out.old hgb (HB.out q1 (by omega))
      have b2 := F.out.old hgb (HB.out q2 (by omega))
      have b3 := F.out.old hgb (HB.out q3 (by omega))
      have e0 : (q0 : Int) < 64 := by omega
      have e1 : (q1 : Int) < 64 := by omega
      have e2 : (q2 : Int) < 64 := by omega
      have e3 : (q3 : Int) < 64 := by omega
      have ei : (i : Int) < 64 := by omega
      have z0 := F.out.hw.cell i (by omega)
      have z1 := F.out.hw.free i (by omega)
      have H1 := Aside0.mk (step0 _ _ _ _ _ _ hbl hws hlt H0.out)
      rw [← hq1, ← hq2, ← hq3, ← hq0] at H1
      generalize hx0 : bs.getD q0 0 = x0 at b0 H1
      generalize hx1 : bs.getD q1 0 = x1 at b1 H1
      generalize hx2 : bs.getD q2 0 = x2 at b2 H1
      generalize hx3 : bs.getD q3 0 = x3 at b3 H1
      generalize ws.getD i 0 = xi at z0
      clear hq0 hq1 hq2 hq3 hx0 hx1 hx2 hx3
      go_wp2
      go_still_tail 35, (by kernel_rfl)
      change wpList _ _ _ _ _ wr.drew
      have z2 : wr.drew.cell? ⟨n + 2, i, none⟩ = some (.int .u32 xi) := z0
      have z3 : wr.drew.frozen? ⟨n + 2, i, none⟩ = false := z1
      have F2 := Aside0.mk (F.out.drew.word i (by omega) (word4 x0 x1 x2 x3))
      generalize wr.drew = w4 at z2 z3 F2 ⊢
      clear z0 z1 b0 b1 b2 b3 F
      go_wp2
      go_roundg (16 - (i + 1))
      case measure => omega
      case rel => exact ⟨i + 1, _, by omega, by omega, by go_num, by rw [List.length_set]; exact hws, H1, F2⟩
    · have hlt2 : ¬ ((i : Int) < 16) := by omega
      have H1 := Aside0.mk (exit0 _ _ _ _ _ _ hlt2 H0.out)
      clear H0
      go_wp2
      go_loopg [7] 48 (fun gg v7 wr => ∃ (i : Nat) (ws : List Int), i ≤ 64 ∧ 16 ≤ i ∧ gg + i = 64 ∧ v7 = .int .i64 (i : Int) ∧ ws.length = 64 ∧ Aside0 (spec_l01Block.lv1 [h0, h1, h2, h3, h4, h5, h6, h7] ks ws (i : Int) = some r) ∧ Aside0 (Bk w wr n [h0, h1, h2, h3, h4, h5, h6, h7] (List.replicate 8 0) ws))
      case atStart => exact ⟨16, ws, by omega, by omega, rfl, rfl, hws, H1, F⟩
      case round =>
        clear F H1 hlt2 hlt hi hws
        obtain ⟨i, ws, hi, h16, hg, rfl, hws, H0, F⟩ := hrel
        by_cases hlt : i < 64
        · have c1 : ((i : Int) < 64) := by omega
          obtain ⟨q0, hq0⟩ : ∃ q, q = i - 16 := ⟨_, rfl⟩
          obtain ⟨q1, hq1⟩ : ∃ q, q = i - 15 := ⟨_, rfl⟩
          obtain ⟨q2, hq2⟩ : ∃ q, q = i - 7 := ⟨_, rfl⟩
          obtain ⟨q3, hq3⟩ : ∃ q, q = i - 2 := ⟨_, rfl⟩
          have w0 : IntKind.i64.wrap ((i : Int) - 16) = (q0 : Int) := (w64id _ (by omega) (by omega)).trans (by omega)
          have w1 : IntKind.i64.wrap ((i : Int) - 15) = (q1 : Int) := by clear w0; exact (w64id _ (by omega) (by omega)).trans (by omega)
          have w2 : IntKind.i64.wrap ((i : Int) - 7) = (q2 : Int) := by clear w0 w1; exact (w64id _ (by omega) (by omega)).trans (by omega)
          have w3 : IntKind.i64.wrap ((i : Int) - 2) = (q3 : Int) := by clear w0 w1 w2; exact (w64id _ (by omega) (by omega)).trans (by omega)
          have g0 : q0 < ws.length := by clear w0 w1 w2 w3; omega
          have g1 : q1 < ws.length := by clear w0 w1 w2 w3; omega
          have g2 : q2 < ws.length := by clear w0 w1 w2 w3; omega
          have g3 : q3 < ws.length := by clear w0 w1 w2 w3; omega
          have g4 : i < ws.length := by clear w0 w1 w2 w3; omega
          have b0 := F.out.hw.cell q0 g0
          have b1 := F.out.hw.cell q1 g1
          have b2 := F.out.hw.cell q2 g2
          have b3 := F.out.hw.cell q3 g3
          have e0 : (q0 : Int) < 64 := by clear w0 w1 w2 w3; omega
          have e1 : (q1 : Int) < 64 := by clear w0 w1 w2 w3; omega
          have e2 : (q2 : Int) < 64 := by clear w0 w1 w2 w3; omega
          have e3 : (q3 : Int) < 64 := by clear w0 w1 w2 w3; omega
          have z0 := F.out.hw.cell i g4
          have z1 := F.out.hw.free i g4
          have H1 := Aside0.mk (step1 _ _ _ _ _ hws h16 hlt H0.out)
          rw [← hq0, ← hq1, ← hq2, ← hq3] at H1
          generalize hx0 : ws.getD q0 0 = x0 at b0 H1
          generalize hx1 : ws.getD q1 0 = x1 at b1 H1
          generalize hx2 : ws.getD q2 0 = x2 at b2 H1
          generalize hx3 : ws.getD q3 0 = x3 at b3 H1
          generalize ws.getD i 0 = xi at z0
          clear hq0 hq1 hq2 hq3 hx0 hx1 hx2 hx3 g0 g1 g2 g3 H0
          go_wp2
          go_quiet (fail)
          have F3 := Aside0.mk (F.out.drewN nq)
          have b0_ : (wr.drewN nq).cell? _ = _ := b0
          have b1_ : (wr.drewN nq).cell? _ = _ := b1
          have b2_ : (wr.drewN nq).cell? _ = _ := b2
          have b3_ : (wr.drewN nq).cell? _ = _ := b3
          have z0_ : (wr.drewN nq).cell? _ = _ := z0
          have z1_ : (wr.drewN nq).frozen? _ = _ := z1
          clear b0 b1 b2 b3 z0 z1 F
          generalize wr.drewN nq = w5 at b0_ b1_ b2_ b3_ z0_ z1_ F3 ⊢
          go_wp2
          refine wp_region_still_tail 29 (by kernel_rfl) (by kernel_rfl) ?_
          simp only [List.take_succ_cons, List.take_zero, List.drop_succ_cons, List.drop_zero]
          repeat still_step
          still_call (turn7 _ _)
          repeat still_step
          still_call (turn18 _ _)
          repeat still_step
          still_call (turn17 _ _)
          repeat still_step
          still_call (turn19 _ _)
          repeat still_step
          refine wpStill_nil ?_
          change wpList _ _ _ _ _ w5.drew
          have z2 : w5.drew.cell? ⟨n + 2, i, none⟩ = some (.int .u32 xi) := z0_
          have z3 : w5.drew.frozen? ⟨n + 2, i, none⟩ = false := z1_
          have F2 := Aside0.mk (F3.out.drew.word i g4 (wordX x0 (sig x1 7 18 (x1 / 8)) x2 (sig x3 17 19 (x3 / 1024))))
          generalize w5.drew = w4 at z2 z3 F2 ⊢
          clear z0_ z1_ b0_ b1_ b2_ b3_ F3 w0 w1 w2 w3
          go_wp2
          go_roundg (64 - (i + 1))
          case measure => omega
          case rel => exact ⟨i + 1, _, by omega, by omega, by omega, by go_num, by rw [List.length_set]; exact hws, H1, F2⟩
        · have hlt2 : ¬ ((i : Int) < 64) := by omega
          have H1 := Aside0.mk (exit1 _ _ _ _ rfl _ hlt2 H0.out)
          clear H0
          obtain ⟨⟨a0, a1, a2, a3, a4, a5, a6, a7⟩, -⟩ := F.out.hh.eight
          have hsz := F.out.size
          go_wp2
          have F2 : Aside0 (Bk2 w (wr.alloc (.cells #[.int .u32 h0, .int .u32 h1, .int .u32 h2, .int .u32 h3, .int .u32 h4, .int .u32 h5, .int .u32 h6, .int .u32 h7] 178)) n [h0, h1, h2, h3, h4, h5, h6, h7] (List.replicate 8 0) ws [h0, h1, h2, h3, h4, h5, h6, h7]) := Aside0.mk (Bk2.start F.out [h0, h1, h2, h3, h4, h5, h6, h7] 178)
          generalize World.alloc _ _ = w5 at F2 ⊢
          clear a0 a1 a2 a3 a4 a5 a6 a7 hsz F
          go_loopg [97] 64 (fun gg v97 wr => ∃ (i : Nat) (a0 a1 a2 a3 a4 a5 a6 a7 : Int), i ≤ 64 ∧ gg + i = 64 ∧ v97 = .int .i64 (i : Int) ∧ Aside0 (spec_l01Block.lv2 [h0, h1, h2, h3, h4, h5, h6, h7] ks ws [a0, a1, a2, a3, a4, a5, a6, a7] (i : Int) = some r) ∧ Aside0 (Bk2 w wr n [h0, h1, h2, h3, h4, h5, h6, h7] (List.replicate 8 0) ws [a0, a1, a2, a3, a4, a5, a6, a7]))
          case atStart => exact ⟨0, h0, h1, h2, h3, h4, h5, h6, h7, by omega, rfl, rfl, H1, F2⟩
          case round =>
            clear F2 H1 hlt2 hlt hi h16
            obtain ⟨i, a0, a1, a2, a3, a4, a5, a6, a7, hi, hg, rfl, H0, F⟩ := hrel
            by_cases hlt : i < 64
            · have c1 : ((i : Int) < 64) := by omega
              obtain ⟨⟨c0, d1, d2, d3, d4, d5, d6, d7⟩, -⟩ := F.out.ha.eight
              have bk := F.out.old (by omega) (HL.out i (by omega))
              have bw := F.out.hw.cell i (by omega)
              obtain ⟨xk, hxk⟩ : ∃ x, ks.getD i 0 = x := ⟨_, rfl⟩
              obtain ⟨xw, hxw⟩ : ∃ x, ws.getD i 0 = x := ⟨_, rfl⟩
              rw [hxk] at bk
              rw [hxw] at bw
              have HX := Aside0.mk (And.intro hxk hxw)
              clear hxk hxw
              go_wp2
              refine wp_region_still_lit (by kernel_rfl) (by kernel_rfl) ?_
              repeat still_step
              still_call (turn6 _ _)
              repeat still_step
              still_call (turn11 _ _)
              repeat still_step
              still_call (turn25 _ _)
              repeat still_step
              refine wpStill_nil ?_
              have F3 := Aside0.mk F.out.drew
              have c0_ : wr.drew.cell? _ = _ := c0
              have d1_ : wr.drew.cell? _ = _ := d1
              have d2_ : wr.drew.cell? _ = _ := d2
              have d3_ : wr.drew.cell? _ = _ := d3
              have d4_ : wr.drew.cell? _ = _ := d4
              have d5_ : wr.drew.cell? _ = _ := d5
              have d6_ : wr.drew.cell? _ = _ := d6
              have d7_ : wr.drew.cell? _ = _ := d7
              clear c0 d1 d2 d3 d4 d5 d6 d7 bk bw F
              generalize hxp : IntKind.u32.wrap (IntKind.u32.wrap (_ + xk) + xw) = xp
              have hp : pW a7 a4 a5 a6 xk xw = xp := hxp
              have HP := Aside0.mk hp
              clear hxp hp
              rw [show ({ heap := wr.heap, tape := wr.tape, drawn := wr.drawn + 1, os := wr.os, output := wr.output } : World) = wr.drew from rfl]
              generalize wr.drew = w6 at c0_ d1_ d2_ d3_ d4_ d5_ d6_ d7_ F3 ⊢
              go_wp2
              refine wp_region_still_lit (by kernel_rfl) (by kernel_rfl) ?_
              repeat still_step
              still_call (turn2 _ _)
              repeat still_step
              still_call (turn13 _ _)
              repeat still_step
              still_call (turn22 _ _)
              repeat still_step
              refine wpStill_nil ?_
              obtain ⟨⟨c0, d1, d2, d3, d4, d5, d6, d7⟩, ⟨f0, f1, f2, f3, f4, f5, f6, f7⟩⟩ := F3.out.drew.ha.eight
              have F4 := Aside0.mk F3.out.drew
              clear c0_ d1_ d2_ d3_ d4_ d5_ d6_ d7_ F3
              generalize hxq : IntKind.u32.wrap (_ + Go.bits .xor .u32 _ (Go.bits .and .u32 a1 a2)) = xq
              have hq : qW a0 a1 a2 = xq := hxq
              have HQ := Aside0.mk hq
              clear hxq hq
              rw [show ({ heap := w6.heap, tape := w6.tape, drawn := w6.drawn + 1, os := w6.os, output := w6.output } : World) = w6.drew from rfl]
              generalize w6.drew = w7 at c0 d1 d2 d3 d4 d5 d6 d7 f0 f1 f2 f3 f4 f5 f6 f7 F4 ⊢
              have H1 := Aside0.mk (step2w _ _ _ _ _ _ _ _ _ _ _ _ _ hws hkl hlt xk xw xp xq HX.out.1 HX.out.2 HP.out HQ.out H0.out)
              clear H0
              go_wp2
              go_roundg (64 - (i + 1))
              case measure => omega
              case rel =>
                have F5 := ((((((((F4.out.set 0 (by simp) ((xp + xq) % 4294967296)).set 1 (by simp) a0).set 2 (by simp) a1).set 3 (by simp) a2).set 4 (by simp) ((a3 + xp) % 4294967296)).set 5 (by simp) a4).set 6 (by simp) a5).set 7 (by simp) a6)
                exact ⟨i + 1, _, _, _, _, _, _, _, _, by omega, by omega, by go_num, H1, ⟨F5⟩⟩
            · have hlt2 : ¬ ((i : Int) < 64) := by omega
              have H1 := Aside0.mk (exit2 _ _ _ _ _ _ hlt2 H0.out)
              clear H0
              go_wp2
              go_loopg [182] 8 (fun gg v182 wr => ∃ (i : Nat) (lh : List Int), i ≤ 8 ∧ gg + i = 8 ∧ v182 = .int .i64 (i : Int) ∧ lh.length = 8 ∧ Aside0 (spec_l01Block.lv3 lh [a0, a1, a2, a3, a4, a5, a6, a7] (i : Int) = some r) ∧ Aside0 (Bk2 w wr n lh (List.replicate 8 0) ws [a0, a1, a2, a3, a4, a5, a6, a7]))
              case atStart => exact ⟨0, _, by omega, rfl, rfl, rfl, H1, F⟩
              case round =>
                clear F H1 hlt2 hlt hi
                obtain ⟨i, lh, hi, hg, rfl, hlh, H0, F⟩ := hrel
                by_cases hlt : i < 8
                · have c1 : ((i : Int) < 8) := by omega
                  have H1 := Aside0.mk (step3 _ _ _ _ hlh rfl hlt H0.out)
                  have b0 := F.out.hh.cell i (by omega)
                  have b1 := F.out.ha.cell i (by simpa using hlt)
                  have z1 := F.out.hh.free i (by omega)
                  clear H0
                  obtain ⟨x0, hx0⟩ : ∃ x, lh.getD i 0 = x := ⟨_, rfl⟩
                  obtain ⟨x1, hx1⟩ : ∃ x, ([a0, a1, a2, a3, a4, a5, a6, a7] : List Int).getD i 0 = x := ⟨_, rfl⟩
                  rw [hx0] at b0 H1
                  rw [hx1] at b1 H1
                  rw [u32w_h] at H1
                  clear hx0 hx1
                  go_wp2
                  refine wp_region_still_tail 8 (by kernel_rfl) (by kernel_rfl) ?_
                  simp only [List.take_succ_cons, List.take_zero, List.drop_succ_cons, List.drop_zero]
                  repeat still_step
                  refine wpStill_nil ?_
                  change wpList _ _ _ _ _ wr.drew
                  have z2 : wr.drew.cell? ⟨n, i, none⟩ = some (.int .u32 x0) := b0
                  have z3 : wr.drew.frozen? ⟨n, i, none⟩ = false := z1
                  have F2 := Aside0.mk (F.out.drew.head i (by omega) ((x0 + x1) % 4294967296))
                  generalize wr.drew = w4 at z2 z3 F2 ⊢
                  clear z1 b0 b1 F
                  go_wp2
                  go_roundg (8 - (i + 1))
                  case measure => omega
                  case rel => exact ⟨i + 1, _, by omega, by omega, by go_num, by rw [List.length_set]; exact hlh, H1, F2⟩
                · have hlt2 : ¬ ((i : Int) < 8) := by omega
                  have e := exit3 _ _ _ _ hlt2 H0.out
                  subst e
                  clear H0
                  obtain ⟨b0, b1, b2, b3, b4, b5, b6, b7, rfl⟩ := eight hlh
                  obtain ⟨⟨c0, d1, d2, d3, d4, d5, d6, d7⟩, -⟩ := F.out.hh.eight
                  obtain ⟨⟨k0, k1, k2, k3, k4, k5, k6, k7⟩, ⟨f0, f1, f2, f3, f4, f5, f6, f7⟩⟩ := Au.eight (show Au wr (n + 1) [0, 0, 0, 0, 0, 0, 0, 0] from F.out.hr)
                  go_wp2
                  have F5 := (((((((F.out.out 0 (by simp) b0).out 1 (by simp) b1).out 2 (by simp) b2).out 3 (by simp) b3).out 4 (by simp) b4).out 5 (by simp) b5).out 6 (by simp) b6).out 7 (by simp) b7
                  obtain ⟨⟨r0, r1, r2, r3, r4, r5, r6, r7⟩, -⟩ := F5.hr.eight
                  have hbl := F5.below
                  clear c0 d1 d2 d3 d4 d5 d6 d7 k0 k1 k2 k3 k4 k5 k6 k7 f0 f1 f2 f3 f4 f5 f6 f7 F F5
                  (try simp only [Exit.inBlock, Exit.then])
                  generalize World.setCell (World.setCell (World.setCell (World.setCell (World.setCell (World.setCell (World.setCell (World.setCell wr _ _) _ _) _ _) _ _) _ _) _ _) _ _) _ _ = W8 at hbl r0 r1 r2 r3 r4 r5 r6 r7 ⊢
                  refine bodyPost_ret (res121 _ _ (n + 1) (by rfl) _ _ _ _ _ _ _ _ r0 r1 r2 r3 r4 r5 r6 r7) rfl ?_
                  first | exact ⟨rfl, hbl, rfl⟩ | exact ⟨rfl, hbl⟩
def hashIV : List Int := [1779033703, 3144134277, 1013904242, 2773480762, 1359893119, 2600822924, 528734635, 1541459225]
def roundKs : List Int := [1116352408, 1899447441, 3049323471, 3921009573, 961987163, 1508970993, 2453635748, 2870763221, 3624381080, 310598401, 607225278, 1426881987, 1925078388, 2162078206, 2614888103, 3248222580, 3835390401, 4022224774, 264347078, 604807628, 770255983, 1249150122, 1555081692, 1996064986, 2554220882, 2821834349, 2952996808, 3210313671, 3336571891, 3584528711, 113926993, 338241895, 666307205, 773529912, 1294757372, 1396182291, 1695183700, 1986661051, 2177026350, 2456956037, 2730485921, 2820302411, 3259730800, 3345764771, 3516065817, 3600352804, 4094571909, 275423344, 430227734, 506948616, 659060556, 883997877, 958139571, 1322822218, 1537002063, 1747873779, 1955562222, 2024104815, 2227730452, 2361852424, 2428436474, 2756734187, 3204031479, 3329325298]
theorem hstart (x : List Int) (r : ByteArray) (hx : x.length ≤ 40000000) (H : spec_l01Hash.v x = some r) : spec_l01Hash.lv0 x hashIV (x ++ [128]) = some r := by
  rw [spec_l01Hash.v_eq, Option.bind_some, if_pos (by simp; omega), Option.bind_some, if_pos (by simp; omega), List.nil_append] at H
  exact H
theorem hpad (x h all : List Int) (r : ByteArray) (ha : all.length < 140737488355328) (hc : all.length % 64 ≠ 56) (H : spec_l01Hash.lv0 x h all = some r) : spec_l01Hash.lv0 x h (all ++ [0]) = some r := by
  rw [spec_l01Hash.lv0_eq, if_neg (by omega), if_pos ha] at H
  exact H
theorem hpadded (x h all : List Int) (r : ByteArray) (hc : all.length % 64 = 56) (H : spec_l01Hash.lv0 x h all = some r) : spec_l01Hash.lv1 x h all 7 = some r := by
  rw [spec_l01Hash.lv0_eq, if_pos (by omega)] at H
  exact H
theorem shr_at (n : Int) (k : Nat) (hk : k ≤ 56) : shr .i64 n (k : Int) = n / 2 ^ k := by
  unfold shr
  rw [Int.toNat_natCast, Nat.min_eq_left (by show k ≤ 64; omega)]
/-- The eight bytes of the length. -/
def be8 (n : Int) : List Int := [n / 256 / 256 / 256 / 256 / 256 / 256 / 256 % 256, n / 256 / 256 / 256 / 256 / 256 / 256 % 256, n / 256 / 256 / 256 / 256 / 256 % 256, n / 256 / 256 / 256 / 256 % 256, n / 256 / 256 / 256 % 256, n / 256 / 256 % 256, n / 256 % 256, n % 256]
theorem number8 (n : Int) : impl_number.v n 8 = some (strOfNums (be8 n)) := by
  have w8 : wrap64 (8 - 1) = 7 := w64n _ (by omega) (by omega)
  have w7 : wrap64 (7 - 1) = 6 := w64n _ (by omega) (by omega)
  have w6 : wrap64 (6 - 1) = 5 := w64n _ (by omega) (by omega)
  have w5 : wrap64 (5 - 1) = 4 := w64n _ (by omega) (by omega)
  have w4 : wrap64 (4 - 1) = 3 := w64n _ (by omega) (by omega)
  have w3 : wrap64 (3 - 1) = 2 := w64n _ (by omega) (by omega)
  have w2 : wrap64 (2 - 1) = 1 := w64n _ (by omega) (by omega)
  have w0 : wrap64 (1 - 1) = 0 := w64n _ (by omega) (by omega)
  have w1 : wrap64 (0 - 1) = -1 := w64n _ (by omega) (by omega)
  rw [impl_number.v_eq, if_pos (by decide), if_pos (by decide), w8]
  rw [impl_number.lv0_eq, if_pos (by decide), if_pos (by decide), if_pos (by simp), w7]
  rw [impl_number.lv0_eq, if_pos (by decide), if_pos (by decide), if_pos (by simp), w6]
  rw [impl_number.lv0_eq, if_pos (by decide), if_pos (by decide), if_pos (by simp), w5]
  rw [impl_number.lv0_eq, if_pos (by decide), if_pos (by decide), if_pos (by simp), w4]
  rw [impl_number.lv0_eq, if_pos (by decide), if_pos (by decide), if_pos (by simp), w3]
  rw [impl_number.lv0_eq, if_pos (by decide), if_pos (by decide), if_pos (by simp), w2]
  rw [impl_number.lv0_eq, if_pos (by decide), if_pos (by decide), if_pos (by simp), w0]
  rw [impl_number.lv0_eq, if_pos (by decide), if_pos (by decide), if_pos (by simp), w1, impl_number.lv0_eq, if_neg (by decide)]
  rfl
def be4 (n : Int) : List Int := [n / 256 / 256 / 256 % 256, n / 256 / 256 % 256, n / 256 % 256, n % 256]
theorem number4 (n : Int) : impl_number.v n 4 = some (strOfNums (be4 n)) := by
  have w4 : wrap64 (4 - 1) = 3 := w64n _ (by omega) (by omega)
  have w3 : wrap64 (3 - 1) = 2 := w64n _ (by omega) (by omega)
  have w2 : wrap64 (2 - 1) = 1 := w64n _ (by omega) (by omega)
  have w0 : wrap64 (1 - 1) = 0 := w64n _ (by omega) (by omega)
  have w1 : wrap64 (0 - 1) = -1 := w64n _ (by omega) (by omega)
  rw [impl_number.v_eq, if_pos (by decide), if_pos (by decide), w4]
  rw [impl_number.lv0_eq, if_pos (by decide), if_pos (by decide), if_pos (by simp), w3]
  rw [impl_number.lv0_eq, if_pos (by decide), if_pos (by decide), if_pos (by simp), w2]
  rw [impl_number.lv0_eq, if_pos (by decide), if_pos (by decide), if_pos (by simp), w0]
  rw [impl_number.lv0_eq, if_pos (by decide), if_pos (by decide), if_pos (by simp), w1, impl_number.lv0_eq, if_neg (by decide)]
  rfl
theorem hlen_step (x h all : List Int) (r : ByteArray) (k : Nat) (hk : k < 8) (ha : all.length < 140737488355328) (H : spec_l01Hash.lv1 x h all (k : Int) = some r) :
    spec_l01Hash.lv1 x h (all ++ [wrap64 (8 * (x.length : Int)) / 2 ^ (8 * k) % 256]) ((k : Int) - 1) = some r := by
  have e1 : wrap64 (8 * (k : Int)) = ((8 * k : Nat) : Int) := by rw [w64n _ (by omega) (by omega)]; omega
  have e2 : IntKind.u64.wrap ((8 * k : Nat) : Int) = ((8 * k : Nat) : Int) := by
    clear e1
    unfold IntKind.wrap
    simp [IntKind.bits, IntKind.signed]
    omega
  have e3 : (0 : Int) ≤ ((8 * k : Nat) : Int) := by clear e1 e2; omega
  have e4 : (k : Int) ≥ 0 := by clear e1 e2; omega
  have e5 : wrap64 ((k : Int) - 1) = (k : Int) - 1 := by clear e1 e2; exact w64n _ (by omega) (by omega)
  rw [spec_l01Hash.lv1_eq, e1, e2, e5, if_pos e4, if_pos e3, if_pos ha, shr_at _ _ (by clear e1 e2 e5; omega)] at H
  exact H
theorem hlen_end (x h all : List Int) (r : ByteArray) (H : spec_l01Hash.lv1 x h all (-1) = some r) : spec_l01Hash.lv2 h all roundKs ((64 * 0 : Nat) : Int) = some r := by
  rw [spec_l01Hash.lv1_eq, if_neg (by decide), spec_l01Consts.v_eq, Option.bind_some] at H
  exact H
theorem hlen (x h all : List Int) (r : ByteArray) (ha : all.length < 100000000) (hx : x.length ≤ 40000000) (H : spec_l01Hash.lv1 x h all 7 = some r) :
    spec_l01Hash.lv2 h (all ++ be8 (wrap64 (8 * (x.length : Int)))) roundKs ((64 * 0 : Nat) : Int) = some r := by
  generalize hn : wrap64 (8 * (x.length : Int)) = n
  have h7 := hlen_step x h _ r 7 (by decide) (by omega) H
  have h6 := hlen_step x h _ r 6 (by decide) (by simp; omega) h7
  have h5 := hlen_step x h _ r 5 (by decide) (by simp; omega) h6
  have h4 := hlen_step x h _ r 4 (by decide) (by simp; omega) h5
  have h3 := hlen_step x h _ r 3 (by decide) (by simp; omega) h4
  have h2 := hlen_step x h _ r 2 (by decide) (by simp; omega) h3
  have h1 := hlen_step x h _ r 1 (by decide) (by simp; omega) h2
  have h0 := hlen_step x h _ r 0 (by decide) (by simp; omega) h1
  have he := hlen_end x h _ r h0
  rw [hn] at he
  simp only [List.append_assoc, List.cons_append, List.nil_append] at he
  have v2 : n / 256 / 256 = n / 65536 := by omega
  have v3 : n / 256 / 256 / 256 = n / 16777216 := by omega
  have v4 : n / 256 / 256 / 256 / 256 = n / 4294967296 := by omega
  have v5 : n / 256 / 256 / 256 / 256 / 256 = n / 1099511627776 := by omega
  have v6 : n / 256 / 256 / 256 / 256 / 256 / 256 = n / 281474976710656 := by omega
  have v7 : n / 256 / 256 / 256 / 256 / 256 / 256 / 256 = n / 72057594037927936 := by omega
  unfold be8
  rw [v7, v6, v5, v4, v3, v2]
  simpa using he
theorem hround (hv all : List Int) (r : ByteArray) (m K : Nat) (hl : all.length = 64 * K) (hK : K ≤ 2000000) (hm : m < K) (H : spec_l01Hash.lv2 hv all roundKs ((64 * m : Nat) : Int) = some r) :
    ∃ h', spec_l01Block.v hv ((all.take (64 * m + 64)).drop (64 * m)) roundKs = some h' ∧ spec_l01Hash.lv2 h' all roundKs ((64 * (m + 1) : Nat) : Int) = some r := by
  have e1 : wrap64 (((64 * m : Nat) : Int) + 64) = ((64 * (m + 1) : Nat) : Int) := by rw [w64n _ (by omega) (by omega)]; omega
  have g1 : ((64 * m : Nat) : Int) < (all.length : Int) := by clear e1; omega
  have g2 : (0 : Int) ≤ ((64 * m : Nat) : Int) := by clear e1; omega
  have g3 : ((64 * m : Nat) : Int) ≤ ((64 * (m + 1) : Nat) : Int) := by clear e1; omega
  have g4 : ((64 * (m + 1) : Nat) : Int) ≤ (all.length : Int) := by clear e1; omega
  rw [spec_l01Hash.lv2_eq, e1, if_pos g1, if_pos g2, if_pos g3, if_pos g4, Int.toNat_natCast, Int.toNat_natCast] at H
  obtain ⟨h', e, H⟩ := Option.bind_eq_some_iff.1 H
  exact ⟨h', e, H⟩
theorem hrounds (hv all : List Int) (r : ByteArray) (i : Int) (hi : ¬ i < (all.length : Int)) (H : spec_l01Hash.lv2 hv all roundKs i = some r) : spec_l01Hash.lv3 hv [] ((0 : Nat) : Int) = some r := by
  rw [spec_l01Hash.lv2_eq, if_neg hi] at H
  rw [show ((0 : Nat) : Int) = 0 from rfl]
  exact H
theorem hout (hv o : List Int) (r : ByteArray) (i : Nat) (hh : hv.length = 8) (hi : i < 8) (ho : o.length ≤ 1000) (H : spec_l01Hash.lv3 hv o (i : Int) = some r) :
    spec_l01Hash.lv3 hv (o ++ be4 (hv.getD i 0)) ((i + 1 : Nat) : Int) = some r := by
  have g1 : (i : Int) < 8 := by omega
  have g2 : (0 : Int) ≤ (i : Int) := by omega
  have g3 : (i : Int) < (hv.length : Int) := by omega
  have e1 : wrap64 ((i : Int) + 1) = ((i + 1 : Nat) : Int) := wadd i (by omega)
  have e2 : rd hv (i : Int) = hv.getD i 0 := by simp [rd]
  rw [spec_l01Hash.lv3_eq, e1, if_pos g1, if_pos g2, if_pos g3, Option.bind_some, if_pos (by simp; omega), e2] at H
  have v2 : hv.getD i 0 / 256 / 256 = hv.getD i 0 / 65536 := by clear e1 e2; omega
  have v3 : hv.getD i 0 / 256 / 256 / 256 = hv.getD i 0 / 16777216 := by clear e1 e2 v2; omega
  unfold be4
  rw [v3, v2]
  exact H
theorem hdone (hv o : List Int) (r : ByteArray) (i : Int) (hi : ¬ i < 8) (H : spec_l01Hash.lv3 hv o i = some r) : strOfNums o = r := by
  rw [spec_l01Hash.lv3_eq, if_neg hi] at H
  exact Option.some.inj H
theorem be8_len (n : Int) : (be8 n).length = 8 := by unfold be8; rfl
theorem be4_len (n : Int) : (be4 n).length = 4 := by unfold be4; rfl
theorem bytes_num (l : List Int) (h : ∀ x ∈ l, 0 ≤ x ∧ x < 256) : bytesOf (strOfNums l) = l := by
  unfold bytesOf
  rw [strOfNums_data, List.map_map]
  conv => rhs; rw [← List.map_id l]
  apply List.map_congr_left
  intro x hx
  have := h x hx
  simp only [Function.comp_apply, id]
  rw [UInt8.toNat_ofNat_of_lt' (by show x.toNat < 256; omega)]
  omega
theorem num8 (n : Int) : ∃ k y, impl_number.f k n 8 = some y ∧ bytesOf y = be8 n ∧ y.size = 8 := by
  obtain ⟨k, hk⟩ := (impl_number.v_lim n 8).at_ (strOfNums (be8 n)) (number8 n)
  have hb : bytesOf (strOfNums (be8 n)) = be8 n := bytes_num _ (by
    intro x hx
    unfold be8 at hx
    simp only [List.mem_cons, List.not_mem_nil, or_false] at hx
    rcases hx with rfl | rfl | rfl | rfl | rfl | rfl | rfl | rfl <;> omega)
  exact ⟨k, _, hk, hb, by rw [← bytesOf_length, hb, be8_len]⟩
theorem num4 (n : Int) : ∃ k y, impl_number.f k n 4 = some y ∧ bytesOf y = be4 n ∧ y.size = 4 := by
  obtain ⟨k, hk⟩ := (impl_number.v_lim n 4).at_ (strOfNums (be4 n)) (number4 n)
  have hb : bytesOf (strOfNums (be4 n)) = be4 n := bytes_num _ (by
    intro x hx
    unfold be4 at hx
    simp only [List.mem_cons, List.not_mem_nil, or_false] at hx
    rcases hx with rfl | rfl | rfl | rfl <;> omega)
  exact ⟨k, _, hk, hb, by rw [← bytesOf_length, hb, be4_len]⟩
/-- What the hash's walk keeps: its bytes, its eight words. -/
structure Ih (w W : World) (n g cap gh : Nat) (al hv : List Int) : Prop where
  hs : Hs w W n g cap al
  ha : Au W gh hv
  ne : g ≠ gh
  mine : n ≤ gh
  lt : gh < W.heap.size
theorem Ih.start {w W : World} {n g cap : Nat} {al : List Int} (h : Hs w W n g cap al) (hv : List Int) (t : Nat) : Ih w (W.alloc (.cells (hv.map (Value.int .u32)).toArray t)) n g cap W.heap.size al hv := by
  have h1 := h.lt
  have h2 := h.mine
  refine ⟨h.alloc _, Au.of_row (e := t) _ ?_, by omega, by omega, by rw [alloc_sz]; omega⟩
  rw [alloc_at, if_pos rfl]
theorem Ih.on {w W W' : World} {n g cap gh : Nat} {al hv : List Int} (h : Ih w W n g cap gh al hv) (b : Below W.heap.size W W') : Ih w W' n g cap gh al hv :=
  ⟨h.hs.on b, h.ha.at (b.block gh h.lt), h.ne, h.mine, Nat.lt_of_lt_of_le h.lt b.size⟩
theorem Ih.drew {w W : World} {n g cap gh : Nat} {al hv : List Int} (h : Ih w W n g cap gh al hv) : Ih w W.drew n g cap gh al hv :=
  h.on ⟨rfl, rfl, rfl, Nat.le_refl _, fun _ _ => rfl⟩
theorem Ih.set {w W : World} {n g cap gh : Nat} {al hv : List Int} (h : Ih w W n g cap gh al hv) (j : Nat) (hj : j < hv.length) (x : Int) : Ih w (W.setCell ⟨gh, j, none⟩ (.int .u32 x)) n g cap gh al (hv.set j x) := by
  have hs : (W.setCell ⟨gh, j, none⟩ (.int .u32 x)).heap.size = W.heap.size := by simp [World.setCell]
  exact ⟨⟨h.hs.row.at (setCell_old W _ _ g h.ne), h.hs.mine, by rw [hs]; exact h.hs.lt, below_set_h h.hs.below h.mine⟩, h.ha.set j hj x, h.ne, h.mine, by rw [hs]; exact h.lt⟩
theorem cut64 (al : List Int) (o j : Nat) (hj : j < 64) : ((al.take (o + 64)).drop o).getD j 0 = al.getD (o + j) 0 := by
  simp only [List.getD, List.getElem?_drop, List.getElem?_take]
  rw [if_pos (by omega)]
theorem str_add (a b : List Int) : strOfNums a ++ strOfNums b = strOfNums (a ++ b) := by
  apply ByteArray.ext
  apply Array.toList_inj.1
  rw [ByteArray.data_append, Array.toList_append, strOfNums_data, strOfNums_data, strOfNums_data, List.map_append]
theorem be4_wrap (x : Int) : be4 (wrap64 x) = be4 x := by
  rw [← i64_w, IntKind.wrap_i64]
  unfold be4
  have h : ∀ a b : Int, a % 4294967296 = b % 4294967296 → a / 256 / 256 / 256 % 256 = b / 256 / 256 / 256 % 256 ∧ a / 256 / 256 % 256 = b / 256 / 256 % 256 ∧ a / 256 % 256 = b / 256 % 256 ∧ a % 256 = b % 256 := by
    intro a b h
    refine ⟨by omega, by omega, by omega, by omega⟩
  obtain ⟨h1, h2, h3, h4⟩ := h ((x + 9223372036854775808) % 18446744073709551616 - 9223372036854775808) x (by omega)
  rw [h1, h2, h3, h4]
theorem str_back (s : ByteArray) : strOfNums (bytesOf s) = s := by
  apply ByteArray.ext
  apply Array.toList_inj.1
  rw [strOfNums_data]
  unfold bytesOf
  rw [List.map_map]
  conv => rhs; rw [← List.map_id s.data.toList]
  apply List.map_congr_left
  intro x hx
  simp
theorem num4s (x : Int) : ∃ k y, impl_number.f k (wrap64 x) 4 = some y ∧ y = strOfNums (be4 x) ∧ y.size = 4 := by
  obtain ⟨k, y, h1, h2, h3⟩ := num4 (wrap64 x)
  exact ⟨k, y, h1, by rw [← str_back y, h2, be4_wrap], h3⟩
theorem strsz (l : List Int) : (strOfNums l).size = l.length := by
  show (strOfNums l).data.size = _
  simp [strOfNums]
end Go.Proofs.YtlifdodphkimpaaDoor.C
end

section
namespace Go.Proofs.YtlifdodphkimpaaDoor.C
open Go.RowKit Go.Proofs.YtlifdodphkimpaaDoorW.PrintWords Go.Proofs.YtlifdodphkimpaaDoorW.PrintLast Go.Proofs.YtlifdodphkimpaaDoorW.PrintMore
attribute [local go_sem] max2_int min2_int max_two min_two max_three min_three max_four min_four
set_option maxHeartbeats 8000000 in
set_option maxRecDepth 100000 in
theorem impl_number.calls (k : Nat) (a0 : Int) (a1 : Int) (r : ByteArray) (w : World) (h : impl_number.f k a0 a1 = some r) :
  Calls Tryd.prog 128 #[.int .i64 a0,.int .i64 a1] w fun e w' => e = .returned (.string r) ∧ Below w.heap.size w w' := by
 have HB := am_ (Below.refl w.heap.size w)
 have H : (if 0 ≤ a1 then (if (a1 : Int).toNat ≤ 281474976710656 then (impl_number.l0 k a0 (List.replicate (a1 : Int).toNat 0) (wrap64 (a1 - 1))) else (none)) else (none)) = some r := h
 clear h
 by_cases c3 : 0 ≤ a1
 ·rw [if_pos c3] at H
  have c3b0 := eq_true c3
  have c3b1 : decide (0 ≤ a1) = true := decide_eq_true c3
  clear c3
  by_cases c4 : (a1 : Int).toNat ≤ 281474976710656
  ·rw [if_pos c4] at H
   have c4b0 := eq_true c4
   have c4b1 : decide ((a1 : Int).toNat ≤ 281474976710656) = true := decide_eq_true c4
   clear c4
   obtain ⟨y413,hy413⟩ : ∃ y_ : List Int,y_ = (List.replicate (a1 : Int).toNat 0) := ⟨_,rfl⟩
   replace H : (impl_number.l0 k a0 y413 (wrap64 (a1 - 1))) = some r := by first | (rw [hy413];with_reducible exact H) | (have H2_ := (Option.bind_some _ _).symm.trans H;rw [hy413];with_reducible exact H2_) | (have H2_ := (Option.bind_some _ _).symm.trans H;with_reducible exact H2_) | with_reducible exact H | (rw [hy413];exact H) | exact H
   have Ny413 := am_ hy413
   clear hy413
   have H' := am_ H
   clear H
   go_enter Tryd.func128,Tryd.ntmps128
   go_wp2_with (first | ((with_reducible refine gate_dst (N := 8) rfl ?_);refine Kd.R_make (Kd.int .u8) _ 5 rfl (N := 8) rfl 46 _ _ rfl a1 rfl rfl Tryd.underlying46 (.int .u8 0) 1 info5 rfl (by decide) (by omega) 0 (ok := fun _ => True) (okp := fun _ => True) rfl (fun _ hk => hk) trivial (zo_) (Nat.le_trans (Nat.mul_le_mul_right _ (zo_ : a1.toNat ≤ 281474976710656)) (by omega)) (Below.refl _ _) (Nat.le_refl _) ?_;intro v414 w5 ho6 hb hg_ hnew_;clear hg_ hnew_;(first | rw [← Ny413.out] at ho6 | (simp only [Int.reduceToNat] at ho6;rw [← Ny413.out] at ho6));have HO415 := am_ (Kd.R_lower ho6 (below_size (zl_ HB)));replace HB := zs_ HB hb;clear hb ho6))
   go_loopg [0,6] k (fun kq v0 v6 w' => ∃ (x0_1 : Int) (x5_1 : List Int) (x6_1 : Int),v0 = .int .i64 x0_1 ∧ v6 = .int .i64 x6_1 ∧ Aside0 (impl_number.l0 kq x0_1 x5_1 x6_1 = some r) ∧ Aside0 (kq ≤ k) ∧ Aside0 (Kd.R (Kd.int .u8) 5 w' w.heap.size (fun _ => True) v414 x5_1) ∧ Aside0 (Below w.heap.size w w'))
   case atStart => exact ⟨(a0),(y413),(wrap64 (a1 - 1)),(by first | rfl | (simp;done) | (simp [*];done)),(by first | rfl | (simp;done) | (simp [*];done)),H',⟨Nat.le_refl _⟩,⟨zr HO415⟩,⟨zl_ HB⟩⟩
   case round =>
    clear H'
    try clear c1
    try clear p2
    try clear c3
    try clear c3b0
    try clear c3b1
    try clear c4
    try clear c4b0
    try clear c4b1
    try clear p6
    obtain ⟨x0_1,x5_1,x6_1,rfl,rfl,HA,HK1,HO_5,HB⟩ := hrel
    cases gk with
    | zero => exact absurd HA.out (by simp [impl_number.l0])
    | succ k1 =>
     have H := HA.out
     clear HA
     simp only [impl_number.l0] at H
     by_cases c7 : x6_1 ≥ 0
     ·rw [if_pos c7] at H
      have c7b0 : decide (0 ≤ x6_1) = true := decide_eq_true c7
      clear c7
      by_cases c8 : 0 ≤ x6_1
      ·rw [if_pos c8] at H
       have c8b0 : decide (0 ≤ x6_1) = true := decide_eq_true c8
       clear c8
       by_cases c9 : x6_1 < (x5_1.length : Int)
       ·rw [if_pos c9] at H
        have c9b0 : decide (x6_1 < (x5_1.length : Int)) = true := decide_eq_true c9
        clear c9
        obtain ⟨y416,hy416⟩ : ∃ y_ : List Int,y_ = (x5_1.set (x6_1 : Int).toNat ((x0_1) % 256)) := ⟨_,rfl⟩
        replace H : (impl_number.l0 k1 (x0_1 / 256) y416 (wrap64 (x6_1 - 1))) = some r := by first | (rw [hy416];with_reducible exact H) | (have H2_ := (Option.bind_some _ _).symm.trans H;rw [hy416];with_reducible exact H2_) | (have H2_ := (Option.bind_some _ _).symm.trans H;with_reducible exact H2_) | with_reducible exact H | (rw [hy416];exact H) | exact H
        have Ny416 := am_ hy416
        clear hy416
        have H' := am_ H
        clear H
        have p10 : 0 ≤ (x6_1 : Int) := zo_
        have q10 : (x6_1 : Int) < ((x5_1.length : Int) : Int) := zo_
        obtain ⟨go10,co10,eo10,gb10,gl10,cl10,HG10⟩ := Kd.R_form HO_5.out (by omega)
        (first | cases eo10 | (injection eo10 with ea_ en_ ec_;(first | subst ea_ | (injection ea_ with ea_;subst ea_));subst ec_;clear en_))
        have GB10 := am_ gb10
        have GG10 := am_ HG10
        clear gb10 gl10 HG10
        obtain ⟨hx10_0,hf10_0⟩ := Kd.R_celln 0 HO_5.out (x6_1 : Int) p10 q10
        replace p10 := eq_true p10
        replace q10 := eq_true q10
        have HP11 := Kd.R_putg HO_5.out (x6_1 : Int) ((x0_1) % 256)
        go_wp2_with (first | ((with_reducible refine gate_store (t := 5) (p := 19) rfl ?_);refine store_event (t := 5) (p := 19) (v := ?vo_w12) (w1 := (wr.setCell ⟨go10,(x6_1 : Int).toNat,none⟩ (.int .u8 ((x0_1) % 256)))) ?hg ?ho ?hn ?hr ?_;(case ho => rfl);(case hg => rfl);(case hn => rfl);(case hr => first | (go_simp;done) | (go_simp;rfl));intro w12 hw;have hg : wr.grownBy w12 (some go10) := (by rw [hw];exact HP11.2);have hp_ : Kd.R (Kd.int .u8) 5 w12 w.heap.size (fun _ => True) (.slice (some ⟨go10,0,none⟩) x5_1.length co10) y416 := (by rw [hw,Ny416.out];exact HP11.1);clear HP11;replace HO_5 := am_ (hp_);replace HB := am_ ((by rw [hw];exact below_set (HB.out) GB10.out : Below w.heap.size w w12));clear hg hw hp_))
        go_roundg k1
        case measure => have := HK1.out;omega
        case rel => exact ⟨(x0_1 / 256),(y416),(wrap64 (x6_1 - 1)),(by first | rfl | (simp;done) | (simp [*];done)),(by first | rfl | (simp;done) | (simp [*];done)),H',⟨by have := HK1.out;omega⟩,⟨zr HO_5⟩,⟨zl_ HB⟩⟩
       ·rw [if_neg c9] at H
        exact absurd H (by simp)
      ·rw [if_neg c8] at H
       exact absurd H (by simp)
     ·rw [if_neg c7] at H
      have c7b0 : decide (0 ≤ x6_1) = false := decide_eq_false c7
      clear c7
      obtain rfl := Option.some.inj H
      have hcv13 := own_string (P := Tryd.prog) Tryd.underlying46 Tryd.underlying5 Tryd.underlying9 (Kd.own_of_R HO_5.out)
      go_wp2
      go_ret
      exact ⟨zt_,zl_ HB⟩
  ·rw [if_neg c4] at H
   exact absurd H (by simp)
 ·rw [if_neg c3] at H
  exact absurd H (by simp)
end Go.Proofs.YtlifdodphkimpaaDoor.C
end

section
namespace Go.Proofs.YtlifdodphkimpaaDoor.C
open Go.RowKit Go.Proofs.YtlifdodphkimpaaDoorW.PrintWords Go.Proofs.YtlifdodphkimpaaDoorW.PrintLast Go.Proofs.YtlifdodphkimpaaDoorW.PrintMore
set_option maxRecDepth 100000 in
theorem idx122 (a0 a1 a2 a3 a4 a5 a6 a7 : Int) (W : World) (i : Nat) (hi : i < 8) : Sem.run Tryd.prog (Instr.index 178 (Value.agg #[.int .u32 a0, .int .u32 a1, .int .u32 a2, .int .u32 a3, .int .u32 a4, .int .u32 a5, .int .u32 a6, .int .u32 a7]) (Value.int .i64 (i : Int))) W = .ok (.int .u32 (([a0, a1, a2, a3, a4, a5, a6, a7] : List Int).getD i 0)) W := by
  match i, hi with
  | 0, _ => go_simp; rfl
  | 1, _ => go_simp; rfl
  | 2, _ => go_simp; rfl
  | 3, _ => go_simp; rfl
  | 4, _ => go_simp; rfl
  | 5, _ => go_simp; rfl
  | 6, _ => go_simp; rfl
  | 7, _ => go_simp; rfl
set_option maxHeartbeats 400000 in
set_option maxRecDepth 100000 in
theorem hash_walk (s r : ByteArray) (w : World) (hL : ∀ j, j < 64 → w.cell? ⟨0, j, none⟩ = some (.int .u32 (roundKs.getD j 0))) (hs : s.size ≤ 40000000) (H : spec_l01Hash.v (bytesOf s) = some r) :
    Calls Tryd.prog 127 #[.string s] w fun e w' => e = .returned (.string r) ∧ Below w.heap.size w w' := by
  have h0 : 0 < w.heap.size := World.block_lt_of_cell? w _ (hL 0 (by decide))
  have HL := Aside0.mk hL
  have hxl : (bytesOf s).length = s.size := bytesOf_length s
  have H0 := Aside0.mk (hstart _ _ (by omega) H)
  have HX := Aside0.mk hxl
  clear hL H hxl
  go_enter Tryd.func127, Tryd.ntmps127
  go_wp2_with (first | ((with_reducible refine gate_dst (N := 9) rfl ?_); refine conv_hs 5 rfl 9 46 _ rfl s rfl Tryd.underlying9 Tryd.underlying46 Tryd.underlying5 ?_; intro g cap w1 F0; have F := Aside0.mk F0; clear F0) | ((with_reducible refine gate_builtin (b := .append) (xs := #[.tmp 9, .tmp 10]) rfl ?_); at_builtin; refine append1_hs (l := bytesOf s) 46 5 rfl (.tmp 9) (.tmp 10) rfl Tryd.underlying46 info5 128 (by rw [bytesOf_length]; rfl) rfl F.out (by rw [bytesOf_length]; omega) ?_; clear F; intro g' cap' w2 F0; have F := Aside0.mk F0; clear F0))
  have HG := Aside0.mk h0
  clear h0
  go_loopg [3] (56 + 64 - (s.size + 1) % 64) (fun gg v3 wr => ∃ (g cap : Nat) (l : List Int), (l.length + gg) % 64 = 56 ∧ l.length + gg ≤ 41000000 ∧ v3 = .slice (some ⟨g, 0, none⟩) l.length cap ∧ Aside0 (spec_l01Hash.lv0 (bytesOf s) hashIV l = some r) ∧ Aside0 (Hs w wr w.heap.size g cap l))
  case atStart => exact ⟨_, _, bytesOf s ++ [128], by rw [List.length_append, HX.out, List.length_singleton]; omega, by rw [List.length_append, HX.out, List.length_singleton]; omega, by simp, H0, F⟩
  case round =>
    clear F H0
    obtain ⟨g3, cap3, l, hm, hle, rfl, H0, F⟩ := hrel
    by_cases c : l.length % 64 = 56
    · have c1 : ((l.length : Int).tmod 64 = 56) := by rw [Int.tmod_eq_emod_of_nonneg (by omega)]; omega
      have H1 := Aside0.mk (hlen _ _ _ _ (by omega) (by have := HX.out; omega) (hpadded _ _ _ _ c H0.out))
      obtain ⟨ky, y, hky, hby, hys⟩ := num8 (wrap64 (8 * ((bytesOf s).length : Int)))
      rw [← hby] at H1
      have hw8 : wrap64 (8 * (s.size : Int)) = 8 * (s.size : Int) := by clear hky hby H1; exact w64n _ (by omega) (by omega)
      rw [HX.out, hw8] at hky
      clear hw8
      have HK := Aside0.mk hky
      clear hky hby H0
      have hlw : (8 * (s.size : Int)) ≤ 9223372036854775807 := by omega
      go_wp2_with (first | (go_at_call 128; with_reducible refine (impl_number.calls ky _ _ y _ HK.out).mono ?_; rintro e w5 ⟨rfl, hb5⟩; have HB5 := Aside0.mk hb5; clear hb5) | ((with_reducible refine gate_builtin (b := .append) (xs := #[.tmp 19, .tmp 23]) rfl ?_); at_builtin; refine appendS_hs (l := l) 46 9 5 rfl (.tmp 19) (.tmp 23) rfl Tryd.underlying46 Tryd.underlying9 info5 y (by rfl) rfl (by omega) (F.out.on HB5.out) (by omega) ?_; clear F HB5; intro g' cap' w2 F0; have F := Aside0.mk F0; clear F0))
      have HA : (l ++ bytesOf y).length = l.length + 8 := by rw [List.length_append, bytesOf_length, hys]
      rw [show (bytesOf y).length = 8 by rw [bytesOf_length, hys]]
      have FI : Aside0 (Ih w (w2.alloc (.cells #[.int .u32 1779033703, .int .u32 3144134277, .int .u32 1013904242, .int .u32 2773480762, .int .u32 1359893119, .int .u32 2600822924, .int .u32 528734635, .int .u32 1541459225] 178)) w.heap.size g' cap' w2.heap.size (l ++ bytesOf y) hashIV) := Aside0.mk (Ih.start F.out hashIV 178)
      clear F
      generalize w2.alloc _ = w6 at FI ⊢
      generalize w2.heap.size = gh at FI ⊢
      rw [← HA]
      generalize l ++ bytesOf y = al at HA H1 FI ⊢
      obtain ⟨K, hK⟩ : ∃ K, al.length = 64 * K := ⟨al.length / 64, by omega⟩
      have hKb : K ≤ 2000000 := by omega
      have hcap := FI.out.hs.row.room
      rw [hK] at hcap ⊢
      have HN := Aside0.mk hK
      clear HA hm hle hlw c1 c hK
      go_loopg [3] K (fun gg v3 wr => ∃ (m o ln cp : Nat) (hv : List Int), gg + m = K ∧ (0 < gg → o = 64 * m ∧ cp + o = cap') ∧ ln = 64 * gg ∧ v3 = .slice (some ⟨g', o, none⟩) ln cp ∧ hv.length = 8 ∧ Aside0 (spec_l01Hash.lv2 hv al roundKs ((64 * m : Nat) : Int) = some r) ∧ Aside0 (Ih w wr w.heap.size g' cap' gh al hv))
      case atStart => exact ⟨0, 0, _, _, _, by omega, fun _ => ⟨rfl, rfl⟩, rfl, rfl, rfl, H1, FI⟩
      case round =>
        clear FI H1
        obtain ⟨m, o, ln, cp, hv, hgm, hoc, hln, rfl, hh, H1, FI⟩ := hrel
        by_cases c : 0 < gk
        · obtain ⟨ho, hcp⟩ := hoc c
          have c1 : ((ln : Int) > 0) := by omega
          have c2 : (64 : Int) ≤ (ln : Int) := by omega
          have c3 : (64 : Int) ≤ (cp : Int) := by omega
          obtain ⟨h', e1, H2⟩ := hround hv al r m K HN.out hKb (by omega) H1.out
          have H2 := Aside0.mk H2
          rw [← ho] at e1
          have E1 := Aside0.mk e1
          have HO := Aside0.mk (And.intro ho (And.intro hln (And.intro hcp hgm)))
          clear e1 H1 ho hln hcp hgm hoc
          obtain ⟨a0, a1, a2, a3, a4, a5, a6, a7, rfl⟩ := eight hh
          obtain ⟨⟨c0, d1, d2, d3, d4, d5, d6, d7⟩, -⟩ := FI.out.ha.eight
          go_wp2
          refine wp_region_still_tail 3 (by kernel_rfl) (by kernel_rfl) ?_
          simp only [List.take_succ_cons, List.take_zero, List.drop_succ_cons, List.drop_zero]
          repeat still_step
          refine wpStill_nil ?_
          change wpList _ _ _ _ _ wr.drew
          have F3 := Aside0.mk FI.out.drew
          clear c0 d1 d2 d3 d4 d5 d6 d7 FI
          generalize wr.drew = w7 at F3 ⊢
          have hb7 : ∀ j, j < 64 → w7.cell? ⟨g', o + j, none⟩ = some (.int .u8 (((al.take (o + 64)).drop o).getD j 0)) := fun j hj => by
            rw [cut64 al o j hj]
            exact F3.out.hs.row.cell (o + j) (by have := HN.out; have := HO.out; omega)
          have hl7 : ∀ j, j < 64 → w7.cell? ⟨0, j, none⟩ = some (.int .u32 (roundKs.getD j 0)) := fun j hj =>
            (World.cell?_of_block (a := ⟨0, j, none⟩) (F3.out.hs.below.block 0 HG.out)).trans (HL.out j hj)
          have hbl7 : ((al.take (o + 64)).drop o).length = 64 := by have := HN.out; have := HO.out; rw [List.length_drop, List.length_take]; omega
          have HC := Aside0.mk (block_walk a0 a1 a2 a3 a4 a5 a6 a7 g' o cp _ roundKs h' w7 F3.out.hs.lt hbl7 (by have := HO.out; omega) hb7 hl7 rfl E1.out)
          clear hb7 hl7 hbl7
          go_wp2_with (go_at_call 160; with_reducible refine HC.out.mono ?_; rintro e w8 ⟨rfl, hb8, h8⟩; have HB8 := Aside0.mk hb8; clear hb8)
          have F8 := Aside0.mk (F3.out.on HB8.out)
          clear F3 HB8 HC
          obtain ⟨b0, b1, b2, b3, b4, b5, b6, b7, rfl⟩ := eight h8
          obtain ⟨⟨c0, d1, d2, d3, d4, d5, d6, d7⟩, ⟨f0, f1, f2, f3, f4, f5, f6, f7⟩⟩ := F8.out.ha.eight
          simp only [List.map_cons, List.map_nil]
          have hlc : (ln : Int) ≤ (cp : Int) := by have := HO.out; omega
          have hst : Sem.run Tryd.prog (storeCells ⟨gh, 0, none⟩ [.int .u32 b0, .int .u32 b1, .int .u32 b2, .int .u32 b3, .int .u32 b4, .int .u32 b5, .int .u32 b6, .int .u32 b7]) w8 = .ok () ((((((((w8.setCell ⟨gh, 0, none⟩ (.int .u32 b0)).setCell ⟨gh, 1, none⟩ (.int .u32 b1)).setCell ⟨gh, 2, none⟩ (.int .u32 b2)).setCell ⟨gh, 3, none⟩ (.int .u32 b3)).setCell ⟨gh, 4, none⟩ (.int .u32 b4)).setCell ⟨gh, 5, none⟩ (.int .u32 b5)).setCell ⟨gh, 6, none⟩ (.int .u32 b6)).setCell ⟨gh, 7, none⟩ (.int .u32 b7)) := by
            have := run_storeCells_cells (P := Tryd.prog) gh 0 [.int .u32 b0, .int .u32 b1, .int .u32 b2, .int .u32 b3, .int .u32 b4, .int .u32 b5, .int .u32 b6, .int .u32 b7] 0 w8 (fun j hj => by simp only [Nat.zero_add]; rw [F8.out.ha.cell j (by simpa using hj)]; rfl) (fun j hj => by simp only [Nat.zero_add]; exact F8.out.ha.free j (by simpa using hj)) (fun v hv => by simp only [List.mem_cons, List.not_mem_nil, or_false] at hv; rcases hv with rfl | rfl | rfl | rfl | rfl | rfl | rfl | rfl <;> rfl)
            exact this
          have F9 := Aside0.mk ((((((((F8.out.set 0 (by simp) b0).set 1 (by simp) b1).set 2 (by simp) b2).set 3 (by simp) b3).set 4 (by simp) b4).set 5 (by simp) b5).set 6 (by simp) b6).set 7 (by simp) b7)
          clear c0 d1 d2 d3 d4 d5 d6 d7 f0 f1 f2 f3 f4 f5 f6 f7
          rw [hst]
          clear hst
          generalize World.setCell (World.setCell (World.setCell (World.setCell (World.setCell (World.setCell (World.setCell (World.setCell w8 _ _) _ _) _ _) _ _) _ _) _ _) _ _) _ _ = w9 at F9 ⊢
          by_cases hc64 : cp = 64
          · have hl0 : ln = 64 := by have := HO.out; omega
            subst hc64
            subst hl0
            go_wp2
            go_roundg (gk - 1)
            case measure => omega
            case rel =>
              have := HO.out
              exact ⟨m + 1, o, 0, 0, [b0, b1, b2, b3, b4, b5, b6, b7], by omega, by omega, by omega, rfl, rfl, H2, F9⟩
          · have hc65 : (64 : Int) < (cp : Int) := by omega
            go_wp2
            go_roundg (gk - 1)
            case measure => omega
            case rel =>
              have := HO.out
              exact ⟨m + 1, o + 64, ln - 64, cp - 64, [b0, b1, b2, b3, b4, b5, b6, b7], by omega, by omega, by omega, rfl, rfl, H2, F9⟩
        · have hk0 : gk = 0 := by omega
          subst hk0
          have hln0 : ln = 0 := by omega
          subst hln0
          have H2 := Aside0.mk (hrounds hv al r _ (by have := HN.out; omega) H1.out)
          obtain ⟨a0, a1, a2, a3, a4, a5, a6, a7, rfl⟩ := eight hh
          obtain ⟨⟨c0, d1, d2, d3, d4, d5, d6, d7⟩, -⟩ := FI.out.ha.eight
          have hbel := Aside0.mk FI.out.hs.below
          clear H1 hoc hln FI
          go_wp2
          clear c0 d1 d2 d3 d4 d5 d6 d7
          go_loopg [5, 36] 8 (fun gg v5 v36 wr => ∃ (i : Nat) (ol : List Int), i ≤ 8 ∧ gg + i = 8 ∧ v36 = .int .i64 (i : Int) ∧ v5 = .string (strOfNums ol) ∧ ol.length = 4 * i ∧ Aside0 (spec_l01Hash.lv3 [a0, a1, a2, a3, a4, a5, a6, a7] ol (i : Int) = some r) ∧ Aside0 (Below w.heap.size w wr))
          case atStart => exact ⟨0, [], by omega, by omega, rfl, rfl, rfl, H2, hbel⟩
          case round =>
            clear H2 hbel
            obtain ⟨i, ol, hi, hg, rfl, rfl, hol, H2, hbel⟩ := hrel
            by_cases hlt : i < 8
            · have c1 : ((i : Int) < 8) := by omega
              have H3 := Aside0.mk (hout _ _ _ _ rfl hlt (by omega) H2.out)
              clear H2
              have hix := idx122 a0 a1 a2 a3 a4 a5 a6 a7 wr i hlt
              obtain ⟨x, hx⟩ : ∃ x, ([a0, a1, a2, a3, a4, a5, a6, a7] : List Int).getD i 0 = x := ⟨_, rfl⟩
              rw [hx] at hix H3
              clear hx
              obtain ⟨ky4, y4, hk4, hy4, hs4⟩ := num4s x
              have HK4 := Aside0.mk hk4
              have HY4 := Aside0.mk hy4
              clear hk4 hy4
              have hso : (strOfNums ol).size = ol.length := strsz ol
              have hcat : (strOfNums ol).size + y4.size ≤ 9223372036854775807 := by omega
              have hcat2 : ((strOfNums ol).size : Int) + (y4.size : Int) ≤ 9223372036854775807 := by omega
              have hcat3 : ¬ (9223372036854775807 < ((strOfNums ol).size : Int) + (y4.size : Int)) := by omega
              clear hso
              go_wp2_with (go_at_call 128; with_reducible refine (impl_number.calls ky4 _ _ y4 _ HK4.out).mono ?_; rintro e w5 ⟨rfl, hb5⟩; have HB5 := Aside0.mk hb5; clear hb5)
              go_roundg (8 - (i + 1))
              case measure => omega
              case rel => exact ⟨i + 1, _, by omega, by omega, by go_num, by rw [HY4.out, str_add], by rw [List.length_append, be4_len]; omega, H3, ⟨(hbel.out).trans (HB5.out.mono hbel.out.size)⟩⟩
            · have hlt2 : ¬ ((i : Int) < 8) := by omega
              have e := hdone _ _ _ _ hlt2 H2.out
              subst e
              go_wp2
              go_ret
              exact ⟨rfl, hbel.out⟩
    · have c1 : ¬ ((l.length : Int).tmod 64 = 56) := by rw [Int.tmod_eq_emod_of_nonneg (by omega)]; omega
      have H1 := Aside0.mk (hpad _ _ _ _ (by omega) c H0.out)
      clear H0
      go_wp2_with (first | ((with_reducible refine gate_builtin (b := .append) (xs := #[.tmp 16, .tmp 17]) rfl ?_); at_builtin; refine append1_hs (l := l) 46 5 rfl (.tmp 16) (.tmp 17) rfl Tryd.underlying46 info5 0 (by rfl) rfl F.out (by omega) ?_; clear F; intro g' cap' w2 F0; have F := Aside0.mk F0; clear F0))
      have hgk : 1 ≤ gk := by omega
      go_roundg (gk - 1)
      case measure => omega
      case rel => exact ⟨_, _, _, by rw [List.length_append, List.length_singleton]; omega, by rw [List.length_append, List.length_singleton]; omega, by simp, H1, F⟩
/-- The variable of the round's words, as the program's text lays it. -/
structure Laid (w : World) : Prop where
  cells : ∀ j, j < 64 → w.cell? ⟨0, j, none⟩ = some (.int .u32 (roundKs.getD j 0))
theorem Laid.on {w W : World} (h : Laid w) (b : Below w.heap.size w W) : Laid W :=
  ⟨fun j hj => (World.cell?_of_block (a := ⟨0, j, none⟩) (b.block 0 (World.block_lt_of_cell? w _ (h.cells 0 (by decide))))).trans (h.cells j hj)⟩
end Go.Proofs.YtlifdodphkimpaaDoor.C
end

section
namespace Go.Proofs.YtlifdodphkimpaaDoor.C
open Go.RowKit Go.Proofs.YtlifdodphkimpaaDoorW.PrintWords Go.Proofs.YtlifdodphkimpaaDoorW.PrintLast Go.Proofs.YtlifdodphkimpaaDoorW.PrintMore
attribute [local go_sem] max2_int min2_int max_two min_two max_three min_three max_four min_four
theorem impl_hash.calls (k : Nat) (a0 : ByteArray) (r : ByteArray) (w : World) (hL : Laid w) (h : impl_hash.f k a0 = some r) :
  Calls Tryd.prog 127 #[.string a0] w fun e w' => e = .returned (.string r) ∧ Below w.heap.size w w' := by
 unfold impl_hash.f at h
 by_cases c : a0.size ≤ 40000000
 ·rw [if_pos c] at h
  exact hash_walk a0 r w hL.cells c ((spec_l01Hash.v_lim _).up k r h)
 ·rw [if_neg c] at h
  cases h
set_option maxHeartbeats 8000000 in
set_option maxRecDepth 100000 in
theorem impl_mark.calls (k : Nat) (a0 : Int) (a1 : ByteArray) (r : ByteArray) (w : World) (hL : Laid w) (h : impl_mark.f k a0 a1 = some r) :
  Calls Tryd.prog 141 #[.int .i64 a0,.string a1] w fun e w' => e = .returned (.string r) ∧ Below w.heap.size w w' := by
 have HLD := am_ hL
 clear hL
 have HB := am_ (Below.refl w.heap.size w)
 have H : ((impl_number.f k a0 1).bind fun t986 => (if 8 + t986.size ≤ 9223372036854775807 then ((impl_hash.f k ((⟨#[110,111,100,101,32,107,101,121]⟩ : ByteArray) ++ t986)).bind fun t987 => (if t987.size + a1.size ≤ 9223372036854775807 then ((impl_hash.f k (t987 ++ a1)).bind fun t988 => (if 0 ≤ 8 then (if 8 ≤ (t988.size : Int) then (some (t988.extract 0 8)) else (none)) else (none))) else (none))) else (none))) = some r := h
 clear h
 replace H := Option.bind_eq_some_iff.mp H
 obtain ⟨t986,A30,H⟩ := H
 try dsimp only at H
 have A3 := am_ A30
 clear A30
 by_cases c4 : 8 + t986.size ≤ 9223372036854775807
 ·rw [if_pos c4] at H
  have c4b0 := eq_true c4
  have c4b1 : decide (8 + t986.size ≤ 9223372036854775807) = true := decide_eq_true c4
  try have c4b2 : (9223372036854775807 < 8 + t986.size) = False := eq_false (Nat.not_lt.2 c4)
  replace H := Option.bind_eq_some_iff.mp H
  obtain ⟨t987,A50,H⟩ := H
  try dsimp only at H
  have A5 := am_ A50
  clear A50
  by_cases c6 : t987.size + a1.size ≤ 9223372036854775807
  ·rw [if_pos c6] at H
   have c6b0 := eq_true c6
   have c6b1 : decide (t987.size + a1.size ≤ 9223372036854775807) = true := decide_eq_true c6
   try have c6b2 : (9223372036854775807 < t987.size + a1.size) = False := eq_false (Nat.not_lt.2 c6)
   replace H := Option.bind_eq_some_iff.mp H
   obtain ⟨t988,A70,H⟩ := H
   try dsimp only at H
   have A7 := am_ A70
   clear A70
   by_cases c8 : 0 ≤ 8
   ·rw [if_pos c8] at H
    have c8b0 := eq_true c8
    have c8b1 : decide (0 ≤ 8) = true := decide_eq_true c8
    clear c8
    by_cases c9 : 8 ≤ (t988.size : Int)
    ·rw [if_pos c9] at H
     have c9b0 := eq_true c9
     have c9b1 : decide (8 ≤ (t988.size : Int)) = true := decide_eq_true c9
     clear c9
     obtain rfl := Option.some.inj H
     go_enter Tryd.func141,Tryd.ntmps141
     go_wp2_with (first | ((with_reducible refine gate_callee (f := 128) rfl ?_);refine zgl (some 6) Tryd.func128 #[.int .i64 a0,.int .i64 1] ?_;(with_reducible refine (impl_number.calls k a0 1 t986 _ A3.out).mono ?_);rintro e w10 ⟨rfl,hb⟩;refine ⟨_,rfl,?_⟩;replace HB := zs_ HB hb;(try clear hb);(try clear hb2);(try clear hk);(try clear hi)) | ((with_reducible refine gate_callee (f := 127) rfl ?_);refine zgl (some 8) Tryd.func127 #[.string ((⟨#[110,111,100,101,32,107,101,121]⟩ : ByteArray) ++ t986)] ?_;(with_reducible refine (impl_hash.calls k ((⟨#[110,111,100,101,32,107,101,121]⟩ : ByteArray) ++ t986) t987 _ ?side1 A5.out).mono ?_);(case side1 => exact HLD.out.on (zl_ HB));rintro e w11 ⟨rfl,hb⟩;refine ⟨_,rfl,?_⟩;replace HB := zs_ HB hb;(try clear hb);(try clear hb2);(try clear hk);(try clear hi)) | ((with_reducible refine gate_callee (f := 127) rfl ?_);refine zgl (some 11) Tryd.func127 #[.string (t987 ++ a1)] ?_;(with_reducible refine (impl_hash.calls k (t987 ++ a1) t988 _ ?side1 A7.out).mono ?_);(case side1 => exact HLD.out.on (zl_ HB));rintro e w12 ⟨rfl,hb⟩;refine ⟨_,rfl,?_⟩;replace HB := zs_ HB hb;(try clear hb);(try clear hb2);(try clear hk);(try clear hi)))
     go_ret
     exact ⟨zt_,zl_ HB⟩
    ·rw [if_neg c9] at H
     exact absurd H (by simp)
   ·rw [if_neg c8] at H
    exact absurd H (by simp)
  ·rw [if_neg c6] at H
   exact absurd H (by simp)
 ·rw [if_neg c4] at H
  exact absurd H (by simp)
set_option maxHeartbeats 8000000 in
set_option maxRecDepth 100000 in
theorem impl_readingMac.calls (k : Nat) (a0 : Int) (a1 : Int) (r : ByteArray) (w : World) (hL : Laid w) (h : impl_readingMac.f k a0 a1 = some r) :
  Calls Tryd.prog 192 #[.int .i64 a0,.int .i64 a1] w fun e w' => e = .returned (.string r) ∧ Below w.heap.size w w' := by
 have HLD := am_ hL
 clear hL
 have HB := am_ (Below.refl w.heap.size w)
 have H : ((impl_number.f k a1 4).bind fun t1462 => (if 5 + t1462.size ≤ 9223372036854775807 then ((impl_mark.f k a0 ((⟨#[99,108,111,99,107]⟩ : ByteArray) ++ t1462)).bind fun t1463 => (some t1463)) else (none))) = some r := h
 clear h
 replace H := Option.bind_eq_some_iff.mp H
 obtain ⟨t1462,A30,H⟩ := H
 try dsimp only at H
 have A3 := am_ A30
 clear A30
 by_cases c4 : 5 + t1462.size ≤ 9223372036854775807
 ·rw [if_pos c4] at H
  have c4b0 := eq_true c4
  have c4b1 : decide (5 + t1462.size ≤ 9223372036854775807) = true := decide_eq_true c4
  try have c4b2 : (9223372036854775807 < 5 + t1462.size) = False := eq_false (Nat.not_lt.2 c4)
  replace H := Option.bind_eq_some_iff.mp H
  obtain ⟨t1463,A50,H⟩ := H
  try dsimp only at H
  have A5 := am_ A50
  clear A50
  obtain rfl := Option.some.inj H
  go_enter Tryd.func192,Tryd.ntmps192
  go_wp2_with (first | ((with_reducible refine gate_callee (f := 128) rfl ?_);refine zgl (some 7) Tryd.func128 #[.int .i64 a1,.int .i64 4] ?_;(with_reducible refine (impl_number.calls k a1 4 t1462 _ A3.out).mono ?_);rintro e w6 ⟨rfl,hb⟩;refine ⟨_,rfl,?_⟩;replace HB := zs_ HB hb;(try clear hb);(try clear hb2);(try clear hk);(try clear hi)) | ((with_reducible refine gate_callee (f := 141) rfl ?_);refine zgl (some 9) Tryd.func141 #[.int .i64 a0,.string ((⟨#[99,108,111,99,107]⟩ : ByteArray) ++ t1462)] ?_;(with_reducible refine (impl_mark.calls k a0 ((⟨#[99,108,111,99,107]⟩ : ByteArray) ++ t1462) t1463 _ ?side1 A5.out).mono ?_);(case side1 => exact HLD.out.on (zl_ HB));rintro e w7 ⟨rfl,hb⟩;refine ⟨_,rfl,?_⟩;replace HB := zs_ HB hb;(try clear hb);(try clear hb2);(try clear hk);(try clear hi)))
  go_ret
  exact ⟨zt_,zl_ HB⟩
 ·rw [if_neg c4] at H
  exact absurd H (by simp)
def impl_readingsTime.T7 : Bool × List (List Nat × List Nat) := (true,[([],[]),([0],[0]),([1],[1]),([2,1],[2]),([3],[3]),([4,3],[3,4]),([3],[3]),([5,6,3],[3,5,6]),([3,7],[3,7]),([8,3],[8]),([9],[9]),([10,9],[9,10]),([11,9,9],[9,11]),([12],[12]),([12],[12]),([14,12],[12,14]),([13,15,12],[12,13,15]),([16,12],[12,16]),([17,12],[12,17]),([12],[12]),([19,12],[12,19]),([18,20,12],[12,18,20]),([12,21,9],[9,12,21]),([9,22],[9,22]),([23,12],[23]),([24],[24]),([25,24],[24,25]),([24],[24]),([27,24],[24,27]),([24],[24]),([29,24],[24,29]),([28,30,24,24],[24,28,30]),([26,31,24],[24,26,31]),([24,32],[24,32])])
def impl_readingsTime.B7 : List Nat := [0,1,3,7,15,31,15,127,255,511,1023,2047,4095,8191,8191,24575,65535,131071,262143,8191,532479,2097151,4194303,8388607,16777215,33554431,67108863,33554431,167772159,33554431,570425343,2046820351,4294967295,8589934591]
theorem impl_readingsTime.tab7 : rtab .any (opsOf Tryd.f177 7) = impl_readingsTime.T7 := by kernel_rfl
theorem impl_readingsTime.bits7 : waitsOk impl_readingsTime.T7.2 impl_readingsTime.B7 = true := by kernel_rfl
set_option maxHeartbeats 8000000 in
set_option maxRecDepth 100000 in
theorem impl_readingsTime.calls (k : Nat) (a0 : Int) (A1 : Option Addr) (c1 : Nat) (l1 : List (S185)) (r1 : Int) (r2 : Bool) (w : World) (hr1 : Kd.C k185 w A1 l1.length l1) (hc1 : l1.length ≤ c1) (hL : Laid w) (h : impl_readingsTime.f k a0 l1 = some (r1,r2)) :
  Calls Tryd.prog 177 #[.int .i64 a0,.slice A1 l1.length c1] w fun e w' => e = .returned (.tuple #[.int .i64 r1,.bool r2]) ∧ Below w.heap.size w w' := by
 have hu185 := Tryd.underlying185
 have HR1 := am_ hr1
 have HC1 := am_ hc1
 clear hr1 hc1
 have HLD := am_ hL
 clear hL
 have HB := am_ (Below.refl w.heap.size w)
 have H : ((impl_quorum.f a0).bind fun t1473 => (if (l1.length : Int) = t1473 then (impl_readingsTime.l0 k a0 l1 ([] : List Int) l1 (l1.length : Int) 0) else (some (0,false)))) = some (r1,r2) := h
 clear h
 replace H := Option.bind_eq_some_iff.mp H
 obtain ⟨t1473,A30,H⟩ := H
 try dsimp only at H
 have A3 := am_ A30
 clear A30
 by_cases c4 : (l1.length : Int) = t1473
 ·rw [if_pos c4] at H
  have c4b0 : ((l1.length : Int) == t1473) = true := beq_iff_eq.mpr c4
  have c4b1 : ((l1.length : Int) != t1473) = false := bne_eq_false_iff_eq.mpr c4
  clear c4
  have H' := am_ H
  clear H
  go_enter Tryd.func177,Tryd.ntmps177
  go_wp2_with (first | ((with_reducible refine gate_callee (f := 190) rfl ?_);refine zgl (some 12) Tryd.func190 #[.int .i64 a0] ?_;(with_reducible refine (impl_quorum.calls a0 t1473 _ A3.out).mono ?_);rintro e w' ⟨rfl,⟨nd,rfl⟩⟩;refine ⟨_,rfl,?_⟩))
  go_loopg [6,16] k (fun kq v6 v16 w' => ∃ (x6_1 : List Int) (x16_1 : Int),v16 = .int .i64 x16_1 ∧ Aside0 (impl_readingsTime.l0 kq a0 l1 x6_1 l1 (l1.length : Int) x16_1 = some (r1,r2)) ∧ Aside0 (kq ≤ k) ∧ Aside0 (Kd.R (Kd.int .i64) 3 w' w.heap.size (fun _ => True) v6 x6_1) ∧ Aside0 (Below w.heap.size w w'))
  case atStart => exact ⟨(([] : List Int)),(0),(by first | rfl | (simp;done) | (simp [*];done)),H',⟨Nat.le_refl _⟩,⟨by first | exact Kd.R_nil _ _ _ _ _ | exact Kd.N_nil _ _ _ _ _ | exact Kd.V_nil _ _ _ _ _ | exact Kd.Q_nil _ _ _ _ _ | exact Kd.S_nil _ _ _ _ _⟩,⟨zl_ HB⟩⟩
  case round =>
   clear H'
   try clear c1
   try clear p2
   try clear c4
   try clear c4b0
   try clear c4b1
   obtain ⟨x6_1,x16_1,rfl,HA,HK1,HO_6,HB⟩ := hrel
   cases gk with
   | zero => exact absurd HA.out (by simp [impl_readingsTime.l0])
   | succ k1 =>
    have H := HA.out
    clear HA
    simp only [impl_readingsTime.l0] at H
    by_cases c5 : x16_1 < (l1.length : Int)
    ·rw [if_pos c5] at H
     have c5b0 : decide (x16_1 < (l1.length : Int)) = true := decide_eq_true c5
     clear c5
     by_cases c6 : 0 ≤ x16_1
     ·rw [if_pos c6] at H
      have c6b0 : decide (0 ≤ x16_1) = true := decide_eq_true c6
      clear c6
      by_cases c7 : x16_1 < (l1.length : Int)
      ·rw [if_pos c7] at H
       have c7b0 : decide (x16_1 < (l1.length : Int)) = true := decide_eq_true c7
       clear c7
       replace H := Option.bind_eq_some_iff.mp H
       obtain ⟨t1477,A80,H⟩ := H
       try dsimp only at H
       have A8 := am_ A80
       clear A80
       by_cases c9 : t1477 = true
       ·subst c9
        have H1 : (if ((rd_T185 l1 x16_1).f0) ≥ a0 then (some (0,false)) else (if x16_1 > 0 then (if 0 ≤ (wrap64 (x16_1 - 1)) then (if (wrap64 (x16_1 - 1)) < (l1.length : Int) then (if ((rd_T185 l1 (wrap64 (x16_1 - 1))).f0) ≥ ((rd_T185 l1 x16_1).f0) then (some (0,false)) else ((impl_readingMac.f k1 ((rd_T185 l1 x16_1).f0) ((rd_T185 l1 x16_1).f1)).bind fun t1479 => (if ((rd_T185 l1 x16_1).f2).toList = t1479.toList then (if x6_1.length < 17592186044416 then (impl_readingsTime.l0 k1 a0 l1 (x6_1 ++ [(rd_T185 l1 x16_1).f1]) l1 (l1.length : Int) (wrap64 (x16_1 + 1))) else (none)) else (some (0,false))))) else (none)) else (none)) else ((impl_readingMac.f k1 ((rd_T185 l1 x16_1).f0) ((rd_T185 l1 x16_1).f1)).bind fun t1483 => (if ((rd_T185 l1 x16_1).f2).toList = t1483.toList then (if x6_1.length < 17592186044416 then (impl_readingsTime.l0 k1 a0 l1 (x6_1 ++ [(rd_T185 l1 x16_1).f1]) l1 (l1.length : Int) (wrap64 (x16_1 + 1))) else (none)) else (some (0,false)))))) = some (r1,r2) := by rw [if_pos rfl] at H;exact H
        clear H
        have H := H1
        clear H1
        by_cases c10 : ((rd_T185 l1 x16_1).f0) ≥ a0
        ·rw [if_pos c10] at H
         have c10b0 : decide (a0 ≤ ((rd_T185 l1 x16_1).f0)) = true := decide_eq_true c10
         clear c10
         simp only [Option.some.injEq,Prod.mk.injEq] at H
         obtain ⟨rfl,rfl⟩ := H
         have p1475 : 0 ≤ (x16_1 : Int) := zo_
         have q1475 : x16_1 < (l1.length : Int) := zo_
         obtain ⟨ad1475,e1475,hx1475_0,hx1475_1,hx1475_2⟩ := at_T185 HR1.out x16_1 p1475 q1475
         cases e1475
         replace hx1475_0 := zx_ HB hx1475_0
         replace hx1475_1 := zx_ HB hx1475_1
         replace hx1475_2 := zx_ HB hx1475_2
         replace p1475 := eq_true p1475
         replace q1475 := eq_true q1475
         try go_wp2_with (first | ((with_reducible refine gate_dst (N := 8) rfl ?_);refine zbx (N := 8) (cs := #[.int .i64 0,.int .i64 0,.string ⟨#[]⟩]) (t := 185) ?_;intro gb1476 hg w11 hbox hb;replace HO_6 := zrb HO_6 hb;have BK1476 := am_ (hbox);have GW1476 := zw_ HB hg;have GE1476 := zw_ HB hg;replace HB := zs_ HB hb;clear hb hbox hg;obtain ⟨hcz12_0,hcz12_1,hcz12_2,hfz12_0,hfz12_1,hfz12_2⟩ := zc3 BK1476))
         have n0_ : Aside0 (Kd.R (Kd.int .i64) 3 (((w11.setCell ⟨gb1476,0,none⟩ (.int .i64 ((rd_T185 l1 x16_1).f0))).setCell ⟨gb1476,1,none⟩ (.int .i64 ((rd_T185 l1 x16_1).f1))).setCell ⟨gb1476,2,none⟩ (.string ((rd_T185 l1 x16_1).f2))) w.heap.size (fun _ => True) u6 x6_1) := ⟨by (with_reducible repeat (first | apply r1_ | apply r2_ | apply r3_));exact Kd.R_mono (zrf (Kd.R_types HO_6.out BK1476.out (by decide))) (fun _ hk => trivial)⟩
         have n1_ : Aside0 ((((w11.setCell ⟨gb1476,0,none⟩ (.int .i64 ((rd_T185 l1 x16_1).f0))).setCell ⟨gb1476,1,none⟩ (.int .i64 ((rd_T185 l1 x16_1).f1))).setCell ⟨gb1476,2,none⟩ (.string ((rd_T185 l1 x16_1).f2))).heap[gb1476]? = some (.cells #[.int .i64 ((rd_T185 l1 x16_1).f0),.int .i64 ((rd_T185 l1 x16_1).f1),.string ((rd_T185 l1 x16_1).f2)] 185 (0,0))) := ⟨zq BK1476⟩
         have n2_ : Aside0 (Below w.heap.size w (((w11.setCell ⟨gb1476,0,none⟩ (.int .i64 ((rd_T185 l1 x16_1).f0))).setCell ⟨gb1476,1,none⟩ (.int .i64 ((rd_T185 l1 x16_1).f1))).setCell ⟨gb1476,2,none⟩ (.string ((rd_T185 l1 x16_1).f2)))) := ⟨zl_ HB⟩
         (try clear HO_6)
         (try clear BK1476)
         (try clear HB)
         generalize (((w11.setCell ⟨gb1476,0,none⟩ (.int .i64 ((rd_T185 l1 x16_1).f0))).setCell ⟨gb1476,1,none⟩ (.int .i64 ((rd_T185 l1 x16_1).f1))).setCell ⟨gb1476,2,none⟩ (.string ((rd_T185 l1 x16_1).f2))) = w13 at n0_ n1_ n2_ ⊢
         have HO_6 := n0_
         have BK1476 := n1_
         have HB := n2_
         clear n0_ n1_ n2_
         replace HO_6 := am_ (Kd.R_drew HO_6.out)
         replace BK1476 := am_ (blk_drew BK1476.out)
         replace HB := am_ (below_drew1 HB.out)
         refine start_ (n := 34) (S := fun w' => w'.cell? ⟨gb1476,0,none⟩ = some (.int .i64 ((rd_T185 l1 x16_1).f0)) ∧ w'.cell? ⟨gb1476,1,none⟩ = some (.int .i64 ((rd_T185 l1 x16_1).f1)) ∧ w'.cell? ⟨gb1476,2,none⟩ = some (.string ((rd_T185 l1 x16_1).f2))) (ds := []) #[false,false,false,false,false,false,false,false,false,false,false,false,false,false,false,false,false,false,false,false,false,false,false,false,false,false,false,false,false,false,false,false,false,false] (by kernel_rfl) rfl rfl ⟨(blk_cell BK1476.out 0).trans rfl,(blk_cell BK1476.out 1).trans rfl,(blk_cell BK1476.out 2).trans rfl⟩ (fun hHeld => ?_);refine with_tabW impl_readingsTime.tab7 impl_readingsTime.bits7 (fun HT_ HW_ => ?_)
         generalize w13.drew = w14 at HO_6 BK1476 HB hHeld ⊢
         refine ztk 0 (N := some 21) HT_ HW_ hHeld ?_
         refine zon 1 (N := some 22) HT_ (fun K hK => ?_)
         refine zgo Tryd.func191 #[.agg #[.int .i64 ((rd_T185 l1 x16_1).f0),.int .i64 ((rd_T185 l1 x16_1).f1),.string ((rd_T185 l1 x16_1).f2)]] ?_
         with_reducible refine (impl_isReading.calls ((rd_T185 l1 x16_1).f0) ((rd_T185 l1 x16_1).f1) ((rd_T185 l1 x16_1).f2) true _ A8.out).mono ?_
         rintro e w15 ⟨rfl,hb⟩
         refine ⟨_,rfl,?_⟩
         replace HO_6 := zrb HO_6 hb
         replace BK1476 := zb BK1476 hb
         replace HB := zs_ HB hb
         (try clear hb)
         (try clear hb2)
         (try clear hk)
         (try clear hi)
         refine hK.out _ _ ⟨(blk_cell BK1476.out 0).trans rfl,(blk_cell BK1476.out 1).trans rfl,(blk_cell BK1476.out 2).trans rfl⟩ (fun hHeld => ?_)
         clear hK K
         refine norm_ (a' := ?_) ?_ ?_
         rotate_left
         ·show Act.put _ (some 22) _ = _
          simp only [Act.put,p1_,p2_,p3_,i64_w,i32_w]
          rfl
         refine zpu 2 (N := some 23) HT_ ?_
         refine zpu 3 (N := some 24) HT_ ?_
         refine zpu 4 (N := some 25) HT_ ?_
         refine zpu 6 (N := some 27) HT_ ?_
         refine ztk 5 (N := some 26) HT_ HW_ hHeld ?_
         refine zpu 7 (N := some 28) HT_ ?_
         refine zpu 8 (N := some 29) HT_ ?_
         refine zpu 9 (N := some 30) HT_ ?_
         refine zpx 10 (N := some 31) HT_ ?_
         refine zpx 11 (N := some 32) HT_ ?_
         refine zpx 12 (N := some 33) HT_ ?_
         refine zpx 13 (N := some 34) HT_ ?_
         refine zpx 14 (N := some 35) HT_ ?_
         refine zpx 15 (N := some 36) HT_ ?_
         refine zpx 16 (N := some 37) HT_ ?_
         refine zpx 17 (N := some 38) HT_ ?_
         refine zpx 18 (N := some 39) HT_ ?_
         refine zpx 19 (N := some 40) HT_ ?_
         refine zpx 20 (N := some 41) HT_ ?_
         refine zpx 21 (N := some 42) HT_ ?_
         refine zpx 22 (N := some 43) HT_ ?_
         refine zpu 23 (N := some 44) HT_ ?_
         refine zpu 24 (N := some 45) HT_ ?_
         refine zpx 25 (N := some 46) HT_ ?_
         refine zpx 26 (N := some 47) HT_ ?_
         refine zpx 27 (N := some 48) HT_ ?_
         refine zpx 28 (N := some 49) HT_ ?_
         refine zpx 29 (N := some 50) HT_ ?_
         refine zpx 30 (N := some 51) HT_ ?_
         refine zpx 31 (N := some 52) HT_ ?_
         refine zpx 32 (N := some 53) HT_ ?_
         refine zpu 33 (N := some 54) HT_ ?_
         refine done_ (done_of HT_.out (by kernel_rfl)) ?_
         try go_wp2
         go_ret2
         exact ⟨zt_,zl_ HB⟩
        ·rw [if_neg c10] at H
         have c10b0 : decide (a0 ≤ ((rd_T185 l1 x16_1).f0)) = false := decide_eq_false c10
         clear c10
         by_cases c16 : x16_1 > 0
         ·rw [if_pos c16] at H
          have c16b0 : decide (0 < x16_1) = true := decide_eq_true c16
          clear c16
          obtain ⟨ji17,hji17⟩ : ∃ j_ : Int,(wrap64 (x16_1 - 1)) = j_ := ⟨_,rfl⟩
          replace H : (if 0 ≤ (ji17) then (if (ji17) < (l1.length : Int) then (if ((rd_T185 l1 (ji17)).f0) ≥ ((rd_T185 l1 x16_1).f0) then (some (0,false)) else ((impl_readingMac.f k1 ((rd_T185 l1 x16_1).f0) ((rd_T185 l1 x16_1).f1)).bind fun t1479 => (if ((rd_T185 l1 x16_1).f2).toList = t1479.toList then (if x6_1.length < 17592186044416 then (impl_readingsTime.l0 k1 a0 l1 (x6_1 ++ [(rd_T185 l1 x16_1).f1]) l1 (l1.length : Int) (wrap64 (x16_1 + 1))) else (none)) else (some (0,false))))) else (none)) else (none)) = some (r1,r2) := by first | (rw [hji17] at H;exact H) | (simp only [hji17] at H ⊢;exact H)
          (try rw [hji17] at A8)
          have hji17w : (IntKind.i64.wrap (x16_1 - 1)) = ji17 := (i64_w _).trans hji17
          by_cases c18 : 0 ≤ (ji17)
          ·rw [if_pos c18] at H
           have c18b0 : decide (0 ≤ (ji17)) = true := decide_eq_true c18
           clear c18
           by_cases c19 : (ji17) < (l1.length : Int)
           ·rw [if_pos c19] at H
            have c19b0 : decide ((ji17) < (l1.length : Int)) = true := decide_eq_true c19
            clear c19
            by_cases c20 : ((rd_T185 l1 (ji17)).f0) ≥ ((rd_T185 l1 x16_1).f0)
            ·rw [if_pos c20] at H
             have c20b0 : decide (((rd_T185 l1 x16_1).f0) ≤ ((rd_T185 l1 (ji17)).f0)) = true := decide_eq_true c20
             clear c20
             simp only [Option.some.injEq,Prod.mk.injEq] at H
             obtain ⟨rfl,rfl⟩ := H
             have p1475 : 0 ≤ (x16_1 : Int) := zo_
             have q1475 : x16_1 < (l1.length : Int) := zo_
             obtain ⟨ad1475,e1475,hx1475_0,hx1475_1,hx1475_2⟩ := at_T185 HR1.out x16_1 p1475 q1475
             cases e1475
             replace hx1475_0 := zx_ HB hx1475_0
             replace hx1475_1 := zx_ HB hx1475_1
             replace hx1475_2 := zx_ HB hx1475_2
             replace p1475 := eq_true p1475
             replace q1475 := eq_true q1475
             try go_wp2_with (first | ((with_reducible refine gate_dst (N := 8) rfl ?_);refine zbx (N := 8) (cs := #[.int .i64 0,.int .i64 0,.string ⟨#[]⟩]) (t := 185) ?_;intro gb1476 hg w21 hbox hb;replace HO_6 := zrb HO_6 hb;have BK1476 := am_ (hbox);have GW1476 := zw_ HB hg;have GE1476 := zw_ HB hg;replace HB := zs_ HB hb;clear hb hbox hg;obtain ⟨hcz22_0,hcz22_1,hcz22_2,hfz22_0,hfz22_1,hfz22_2⟩ := zc3 BK1476))
             have n0_ : Aside0 (Kd.R (Kd.int .i64) 3 (((w21.setCell ⟨gb1476,0,none⟩ (.int .i64 ((rd_T185 l1 x16_1).f0))).setCell ⟨gb1476,1,none⟩ (.int .i64 ((rd_T185 l1 x16_1).f1))).setCell ⟨gb1476,2,none⟩ (.string ((rd_T185 l1 x16_1).f2))) w.heap.size (fun _ => True) u6 x6_1) := ⟨by (with_reducible repeat (first | apply r1_ | apply r2_ | apply r3_));exact Kd.R_mono (zrf (Kd.R_types HO_6.out BK1476.out (by decide))) (fun _ hk => trivial)⟩
             have n1_ : Aside0 ((((w21.setCell ⟨gb1476,0,none⟩ (.int .i64 ((rd_T185 l1 x16_1).f0))).setCell ⟨gb1476,1,none⟩ (.int .i64 ((rd_T185 l1 x16_1).f1))).setCell ⟨gb1476,2,none⟩ (.string ((rd_T185 l1 x16_1).f2))).heap[gb1476]? = some (.cells #[.int .i64 ((rd_T185 l1 x16_1).f0),.int .i64 ((rd_T185 l1 x16_1).f1),.string ((rd_T185 l1 x16_1).f2)] 185 (0,0))) := ⟨zq BK1476⟩
             have n2_ : Aside0 (Below w.heap.size w (((w21.setCell ⟨gb1476,0,none⟩ (.int .i64 ((rd_T185 l1 x16_1).f0))).setCell ⟨gb1476,1,none⟩ (.int .i64 ((rd_T185 l1 x16_1).f1))).setCell ⟨gb1476,2,none⟩ (.string ((rd_T185 l1 x16_1).f2)))) := ⟨zl_ HB⟩
             (try clear HO_6)
             (try clear BK1476)
             (try clear HB)
             generalize (((w21.setCell ⟨gb1476,0,none⟩ (.int .i64 ((rd_T185 l1 x16_1).f0))).setCell ⟨gb1476,1,none⟩ (.int .i64 ((rd_T185 l1 x16_1).f1))).setCell ⟨gb1476,2,none⟩ (.string ((rd_T185 l1 x16_1).f2))) = w23 at n0_ n1_ n2_ ⊢
             have HO_6 := n0_
             have BK1476 := n1_
             have HB := n2_
             clear n0_ n1_ n2_
             replace HO_6 := am_ (Kd.R_drew HO_6.out)
             replace BK1476 := am_ (blk_drew BK1476.out)
             replace HB := am_ (below_drew1 HB.out)
             have p1478 : 0 ≤ ((ji17) : Int) := zo_
             have q1478 : (ji17) < (l1.length : Int) := zo_
             obtain ⟨ad1478,e1478,hx1478_0,hx1478_1,hx1478_2⟩ := at_T185 HR1.out (ji17) p1478 q1478
             have hw1478_2 := hx1478_2
             have hw1478_1 := hx1478_1
             have hw1478_0 := hx1478_0
             obtain rfl : ad1475 = ad1478 := (by injection e1478)
             replace hx1478_0 := zx_ HB hx1478_0
             replace hx1478_1 := zx_ HB hx1478_1
             replace hx1478_2 := zx_ HB hx1478_2
             replace p1478 := eq_true p1478
             replace q1478 := eq_true q1478
             refine start_ (n := 34) (S := fun w' => w'.cell? ⟨gb1476,0,none⟩ = some (.int .i64 ((rd_T185 l1 x16_1).f0)) ∧ w'.cell? ⟨gb1476,1,none⟩ = some (.int .i64 ((rd_T185 l1 x16_1).f1)) ∧ w'.cell? ⟨gb1476,2,none⟩ = some (.string ((rd_T185 l1 x16_1).f2)) ∧ w'.cell? (ad1475.add (((ji17)).toNat * 3)) = some (.int .i64 ((rd_T185 l1 (ji17)).f0)) ∧ w'.cell? ⟨(ad1475.add (((ji17)).toNat * 3)).block,(ad1475.add (((ji17)).toNat * 3)).off + 1,none⟩ = some (.int .i64 ((rd_T185 l1 (ji17)).f1)) ∧ w'.cell? ⟨(ad1475.add (((ji17)).toNat * 3)).block,(ad1475.add (((ji17)).toNat * 3)).off + 2,none⟩ = some (.string ((rd_T185 l1 (ji17)).f2))) (ds := []) #[false,false,false,false,false,false,false,false,false,false,false,false,false,false,false,false,false,false,false,false,false,false,false,false,false,false,false,false,false,false,false,false,false,false] (by kernel_rfl) rfl rfl ⟨(blk_cell BK1476.out 0).trans rfl,(blk_cell BK1476.out 1).trans rfl,(blk_cell BK1476.out 2).trans rfl,(zx_ HB hw1478_0),(zx_ HB hw1478_1),(zx_ HB hw1478_2)⟩ (fun hHeld => ?_);refine with_tabW impl_readingsTime.tab7 impl_readingsTime.bits7 (fun HT_ HW_ => ?_)
             generalize w23.drew = w24 at HO_6 BK1476 HB hx1478_0 hx1478_1 hx1478_2 hHeld ⊢
             refine ztk 0 (N := some 21) HT_ HW_ hHeld ?_
             refine zon 1 (N := some 22) HT_ (fun K hK => ?_)
             refine zgo Tryd.func191 #[.agg #[.int .i64 ((rd_T185 l1 x16_1).f0),.int .i64 ((rd_T185 l1 x16_1).f1),.string ((rd_T185 l1 x16_1).f2)]] ?_
             with_reducible refine (impl_isReading.calls ((rd_T185 l1 x16_1).f0) ((rd_T185 l1 x16_1).f1) ((rd_T185 l1 x16_1).f2) true _ A8.out).mono ?_
             rintro e w25 ⟨rfl,hb⟩
             refine ⟨_,rfl,?_⟩
             replace HO_6 := zrb HO_6 hb
             replace BK1476 := zb BK1476 hb
             replace HB := zs_ HB hb
             (try clear hb)
             (try clear hb2)
             (try clear hk)
             (try clear hi)
             refine hK.out _ _ ⟨(blk_cell BK1476.out 0).trans rfl,(blk_cell BK1476.out 1).trans rfl,(blk_cell BK1476.out 2).trans rfl,(zx_ HB hw1478_0),(zx_ HB hw1478_1),(zx_ HB hw1478_2)⟩ (fun hHeld => ?_)
             clear hK K
             refine norm_ (a' := ?_) ?_ ?_
             rotate_left
             ·show Act.put _ (some 22) _ = _
              simp only [Act.put,p1_,p2_,p3_,i64_w,i32_w]
              rfl
             refine zpu 2 (N := some 23) HT_ ?_
             refine zpu 3 (N := some 24) HT_ ?_
             refine zpu 4 (N := some 25) HT_ ?_
             refine zpu 6 (N := some 27) HT_ ?_
             refine ztk 5 (N := some 26) HT_ HW_ hHeld ?_
             refine zpu 7 (N := some 28) HT_ ?_
             refine zpu 8 (N := some 29) HT_ ?_
             refine zpu 9 (N := some 30) HT_ ?_
             refine zpu 10 (N := some 31) HT_ ?_
             refine zpu 11 (N := some 32) HT_ ?_
             refine zpu 12 (N := some 33) HT_ ?_
             refine zpu 13 (N := some 34) HT_ ?_
             refine zpu 14 (N := some 35) HT_ ?_
             refine zpu 15 (N := some 36) HT_ ?_
             refine zpu 16 (N := some 37) HT_ ?_
             refine zpu 17 (N := some 38) HT_ ?_
             refine zpu 19 (N := some 40) HT_ ?_
             refine ztk 18 (N := some 39) HT_ HW_ hHeld ?_
             refine ztk 20 (N := some 41) HT_ HW_ hHeld ?_
             refine zpu 21 (N := some 42) HT_ ?_
             refine zpu 22 (N := some 43) HT_ ?_
             refine zpu 23 (N := some 44) HT_ ?_
             refine zpu 24 (N := some 45) HT_ ?_
             refine zpx 25 (N := some 46) HT_ ?_
             refine zpx 26 (N := some 47) HT_ ?_
             refine zpx 27 (N := some 48) HT_ ?_
             refine zpx 28 (N := some 49) HT_ ?_
             refine zpx 29 (N := some 50) HT_ ?_
             refine zpx 30 (N := some 51) HT_ ?_
             refine zpx 31 (N := some 52) HT_ ?_
             refine zpx 32 (N := some 53) HT_ ?_
             refine zpu 33 (N := some 54) HT_ ?_
             refine done_ (done_of HT_.out (by kernel_rfl)) ?_
             try go_wp2
             go_ret2
             exact ⟨by first | rfl | (simp [e1_,e2_] <;> rfl) | (simp only [← hji17];first | rfl | (simp [e1_,e2_] <;> rfl)) | (simp [*,e1_,e2_] <;> rfl) | (simp [e3_,e4_];done) | (simp [*,e3_,e4_];done),zl_ HB⟩
            ·rw [if_neg c20] at H
             have c20b0 : decide (((rd_T185 l1 x16_1).f0) ≤ ((rd_T185 l1 (ji17)).f0)) = false := decide_eq_false c20
             clear c20
             replace H := Option.bind_eq_some_iff.mp H
             obtain ⟨t1479,A260,H⟩ := H
             try dsimp only at H
             have A26 := am_ A260
             clear A260
             by_cases c27 : ((rd_T185 l1 x16_1).f2).toList = t1479.toList
             ·rw [if_pos c27] at H
              have c27b0 : (((rd_T185 l1 x16_1).f2).toList == t1479.toList) = true := beq_iff_eq.mpr c27
              have c27b1 : (((rd_T185 l1 x16_1).f2).toList != t1479.toList) = false := bne_eq_false_iff_eq.mpr c27
              clear c27
              by_cases c28 : x6_1.length < 17592186044416
              ·rw [if_pos c28] at H
               have LMc28 := am_ c28
               clear c28
               obtain ⟨y1480,hy1480⟩ : ∃ y_ : List Int,y_ = (x6_1 ++ [(rd_T185 l1 x16_1).f1]) := ⟨_,rfl⟩
               replace H : (impl_readingsTime.l0 k1 a0 l1 y1480 l1 (l1.length : Int) (wrap64 (x16_1 + 1))) = some (r1,r2) := by first | (rw [hy1480];with_reducible exact H) | (have H2_ := (Option.bind_some _ _).symm.trans H;rw [hy1480];with_reducible exact H2_) | (have H2_ := (Option.bind_some _ _).symm.trans H;with_reducible exact H2_) | with_reducible exact H | (rw [hy1480];exact H) | exact H
               have Ny1480 := am_ hy1480
               clear hy1480
               have H' := am_ H
               clear H
               have p1475 : 0 ≤ (x16_1 : Int) := zo_
               have q1475 : x16_1 < (l1.length : Int) := zo_
               obtain ⟨ad1475,e1475,hx1475_0,hx1475_1,hx1475_2⟩ := at_T185 HR1.out x16_1 p1475 q1475
               cases e1475
               replace hx1475_0 := zx_ HB hx1475_0
               replace hx1475_1 := zx_ HB hx1475_1
               replace hx1475_2 := zx_ HB hx1475_2
               replace p1475 := eq_true p1475
               replace q1475 := eq_true q1475
               try go_wp2_with (first | ((with_reducible refine gate_dst (N := 8) rfl ?_);refine zbx (N := 8) (cs := #[.int .i64 0,.int .i64 0,.string ⟨#[]⟩]) (t := 185) ?_;intro gb1476 hg w29 hbox hb;replace HO_6 := zrb HO_6 hb;have BK1476 := am_ (hbox);have GW1476 := zw_ HB hg;have GE1476 := zw_ HB hg;replace HB := zs_ HB hb;clear hb hbox hg;obtain ⟨hcz30_0,hcz30_1,hcz30_2,hfz30_0,hfz30_1,hfz30_2⟩ := zc3 BK1476))
               have n0_ : Aside0 (Kd.R (Kd.int .i64) 3 (((w29.setCell ⟨gb1476,0,none⟩ (.int .i64 ((rd_T185 l1 x16_1).f0))).setCell ⟨gb1476,1,none⟩ (.int .i64 ((rd_T185 l1 x16_1).f1))).setCell ⟨gb1476,2,none⟩ (.string ((rd_T185 l1 x16_1).f2))) w.heap.size (fun _ => True) u6 x6_1) := ⟨by (with_reducible repeat (first | apply r1_ | apply r2_ | apply r3_));exact Kd.R_mono (zrf (Kd.R_types HO_6.out BK1476.out (by decide))) (fun _ hk => trivial)⟩
               have n1_ : Aside0 ((((w29.setCell ⟨gb1476,0,none⟩ (.int .i64 ((rd_T185 l1 x16_1).f0))).setCell ⟨gb1476,1,none⟩ (.int .i64 ((rd_T185 l1 x16_1).f1))).setCell ⟨gb1476,2,none⟩ (.string ((rd_T185 l1 x16_1).f2))).heap[gb1476]? = some (.cells #[.int .i64 ((rd_T185 l1 x16_1).f0),.int .i64 ((rd_T185 l1 x16_1).f1),.string ((rd_T185 l1 x16_1).f2)] 185 (0,0))) := ⟨zq BK1476⟩
               have n2_ : Aside0 (Below w.heap.size w (((w29.setCell ⟨gb1476,0,none⟩ (.int .i64 ((rd_T185 l1 x16_1).f0))).setCell ⟨gb1476,1,none⟩ (.int .i64 ((rd_T185 l1 x16_1).f1))).setCell ⟨gb1476,2,none⟩ (.string ((rd_T185 l1 x16_1).f2)))) := ⟨zl_ HB⟩
               (try clear HO_6)
               (try clear BK1476)
               (try clear HB)
               generalize (((w29.setCell ⟨gb1476,0,none⟩ (.int .i64 ((rd_T185 l1 x16_1).f0))).setCell ⟨gb1476,1,none⟩ (.int .i64 ((rd_T185 l1 x16_1).f1))).setCell ⟨gb1476,2,none⟩ (.string ((rd_T185 l1 x16_1).f2))) = w31 at n0_ n1_ n2_ ⊢
               have HO_6 := n0_
               have BK1476 := n1_
               have HB := n2_
               clear n0_ n1_ n2_
               replace HO_6 := am_ (Kd.R_drew HO_6.out)
               replace BK1476 := am_ (blk_drew BK1476.out)
               replace HB := am_ (below_drew1 HB.out)
               have p1478 : 0 ≤ ((ji17) : Int) := zo_
               have q1478 : (ji17) < (l1.length : Int) := zo_
               obtain ⟨ad1478,e1478,hx1478_0,hx1478_1,hx1478_2⟩ := at_T185 HR1.out (ji17) p1478 q1478
               have hw1478_2 := hx1478_2
               have hw1478_1 := hx1478_1
               have hw1478_0 := hx1478_0
               obtain rfl : ad1475 = ad1478 := (by injection e1478)
               replace hx1478_0 := zx_ HB hx1478_0
               replace hx1478_1 := zx_ HB hx1478_1
               replace hx1478_2 := zx_ HB hx1478_2
               replace p1478 := eq_true p1478
               replace q1478 := eq_true q1478
               refine start_ (n := 34) (S := fun w' => w'.cell? ⟨gb1476,0,none⟩ = some (.int .i64 ((rd_T185 l1 x16_1).f0)) ∧ w'.cell? ⟨gb1476,1,none⟩ = some (.int .i64 ((rd_T185 l1 x16_1).f1)) ∧ w'.cell? ⟨gb1476,2,none⟩ = some (.string ((rd_T185 l1 x16_1).f2)) ∧ w'.cell? (ad1475.add (((ji17)).toNat * 3)) = some (.int .i64 ((rd_T185 l1 (ji17)).f0)) ∧ w'.cell? ⟨(ad1475.add (((ji17)).toNat * 3)).block,(ad1475.add (((ji17)).toNat * 3)).off + 1,none⟩ = some (.int .i64 ((rd_T185 l1 (ji17)).f1)) ∧ w'.cell? ⟨(ad1475.add (((ji17)).toNat * 3)).block,(ad1475.add (((ji17)).toNat * 3)).off + 2,none⟩ = some (.string ((rd_T185 l1 (ji17)).f2))) (ds := []) #[false,false,false,false,false,false,false,false,false,false,false,false,false,false,false,false,false,false,false,false,false,false,false,false,false,false,false,false,false,false,false,false,false,false] (by kernel_rfl) rfl rfl ⟨(blk_cell BK1476.out 0).trans rfl,(blk_cell BK1476.out 1).trans rfl,(blk_cell BK1476.out 2).trans rfl,(zx_ HB hw1478_0),(zx_ HB hw1478_1),(zx_ HB hw1478_2)⟩ (fun hHeld => ?_);refine with_tabW impl_readingsTime.tab7 impl_readingsTime.bits7 (fun HT_ HW_ => ?_)
               generalize w31.drew = w32 at HO_6 BK1476 HB hx1478_0 hx1478_1 hx1478_2 hHeld ⊢
               refine ztk 0 (N := some 21) HT_ HW_ hHeld ?_
               refine zon 1 (N := some 22) HT_ (fun K hK => ?_)
               refine zgo Tryd.func191 #[.agg #[.int .i64 ((rd_T185 l1 x16_1).f0),.int .i64 ((rd_T185 l1 x16_1).f1),.string ((rd_T185 l1 x16_1).f2)]] ?_
               with_reducible refine (impl_isReading.calls ((rd_T185 l1 x16_1).f0) ((rd_T185 l1 x16_1).f1) ((rd_T185 l1 x16_1).f2) true _ A8.out).mono ?_
               rintro e w33 ⟨rfl,hb⟩
               refine ⟨_,rfl,?_⟩
               replace HO_6 := zrb HO_6 hb
               replace BK1476 := zb BK1476 hb
               replace HB := zs_ HB hb
               (try clear hb)
               (try clear hb2)
               (try clear hk)
               (try clear hi)
               refine hK.out _ _ ⟨(blk_cell BK1476.out 0).trans rfl,(blk_cell BK1476.out 1).trans rfl,(blk_cell BK1476.out 2).trans rfl,(zx_ HB hw1478_0),(zx_ HB hw1478_1),(zx_ HB hw1478_2)⟩ (fun hHeld => ?_)
               clear hK K
               refine norm_ (a' := ?_) ?_ ?_
               rotate_left
               ·show Act.put _ (some 22) _ = _
                simp only [Act.put,p1_,p2_,p3_,i64_w,i32_w]
                rfl
               refine zpu 2 (N := some 23) HT_ ?_
               refine zpu 3 (N := some 24) HT_ ?_
               refine zpu 4 (N := some 25) HT_ ?_
               refine zpu 6 (N := some 27) HT_ ?_
               refine ztk 5 (N := some 26) HT_ HW_ hHeld ?_
               refine zpu 7 (N := some 28) HT_ ?_
               refine zpu 8 (N := some 29) HT_ ?_
               refine zpu 9 (N := some 30) HT_ ?_
               refine zpu 10 (N := some 31) HT_ ?_
               refine zpu 11 (N := some 32) HT_ ?_
               refine zpu 12 (N := some 33) HT_ ?_
               refine zpu 13 (N := some 34) HT_ ?_
               refine zpu 14 (N := some 35) HT_ ?_
               refine zpu 15 (N := some 36) HT_ ?_
               refine zpu 16 (N := some 37) HT_ ?_
               refine zpu 17 (N := some 38) HT_ ?_
               refine zpu 19 (N := some 40) HT_ ?_
               refine ztk 18 (N := some 39) HT_ HW_ hHeld ?_
               refine ztk 20 (N := some 41) HT_ HW_ hHeld ?_
               refine zpu 21 (N := some 42) HT_ ?_
               refine zpu 22 (N := some 43) HT_ ?_
               refine zpu 23 (N := some 44) HT_ ?_
               refine zpu 24 (N := some 45) HT_ ?_
               refine zpu 25 (N := some 46) HT_ ?_
               refine zpu 27 (N := some 48) HT_ ?_
               refine zpu 29 (N := some 50) HT_ ?_
               refine ztk 26 (N := some 47) HT_ HW_ hHeld ?_
               refine ztk 28 (N := some 49) HT_ HW_ hHeld ?_
               refine ztk 30 (N := some 51) HT_ HW_ hHeld ?_
               refine zon 31 (N := some 52) HT_ (fun K hK => ?_)
               refine zgo Tryd.func192 #[.int .i64 ((rd_T185 l1 x16_1).f0),.int .i64 ((rd_T185 l1 x16_1).f1)] ?_
               with_reducible refine (impl_readingMac.calls k1 ((rd_T185 l1 x16_1).f0) ((rd_T185 l1 x16_1).f1) t1479 _ ?side1 A26.out).mono ?_
               (case side1 => exact HLD.out.on (zl_ HB))
               rintro e w34 ⟨rfl,hb⟩
               refine ⟨_,rfl,?_⟩
               replace HO_6 := zrb HO_6 hb
               replace BK1476 := zb BK1476 hb
               replace HB := zs_ HB hb
               (try clear hb)
               (try clear hb2)
               (try clear hk)
               (try clear hi)
               refine hK.out _ _ ⟨(blk_cell BK1476.out 0).trans rfl,(blk_cell BK1476.out 1).trans rfl,(blk_cell BK1476.out 2).trans rfl,(zx_ HB hw1478_0),(zx_ HB hw1478_1),(zx_ HB hw1478_2)⟩ (fun hHeld => ?_)
               clear hK K
               refine norm_ (a' := ?_) ?_ ?_
               rotate_left
               ·show Act.put _ (some 52) _ = _
                simp only [Act.put,p1_,p2_,p3_,i64_w,i32_w]
                rfl
               refine zpu 32 (N := some 53) HT_ ?_
               refine zpu 33 (N := some 54) HT_ ?_
               refine done_ (done_of HT_.out (by kernel_rfl)) ?_
               obtain ⟨hcz35_0,hcz35_1,hcz35_2,hfz35_0,hfz35_1,hfz35_2⟩ := zc3 BK1476
               try go_wp2_with (first | ((with_reducible refine gate_builtin (b := .append) (xs := #[.tmp 55,.tmp 58]) rfl ?_);at_builtin;refine Kd.R_append (Kd.int .i64) (w0 := w) w.heap.size rfl (.tmp 55) (.tmp 58) 24 3 (.int .i64 0) 8 rfl Tryd.underlying24 info3 rfl (by decide) (by omega) u6 x6_1 ((rd_T185 l1 x16_1).f1) [.int .i64 ((rd_T185 l1 x16_1).f1)] (fun _ => True) (fun _ => False) rfl rfl ?aP (fun _ hk => hk.elim) ?aF ?aO ?aB ?aS ?aL ?_;(case aP => exact rfl);(case aB => exact (zl_ HB));(case aF => exact (fun _ _ => trivial));(case aO => exact (zr HO_6));(case aS => exact (below_size (zl_ HB)));(case aL => have := LMc28.out;omega);intro v1481 w36 ho hb hg hat;rw [← Ny1480.out] at ho;replace HB := am_ (hb);have HO1482 := am_ (ho);clear HO_6;clear ho hb hg hat))
               go_roundg k1
               case measure => have := HK1.out;omega
               case rel => exact ⟨(y1480),(wrap64 (x16_1 + 1)),(by first | rfl | (simp;done) | (simp [*];done)),H',⟨by have := HK1.out;omega⟩,⟨zr HO1482⟩,⟨zl_ HB⟩⟩
              ·rw [if_neg c28] at H
               exact absurd H (by simp)
             ·rw [if_neg c27] at H
              have c27b0 : (((rd_T185 l1 x16_1).f2).toList == t1479.toList) = false := beq_eq_false_iff_ne.mpr c27
              have c27b1 : (((rd_T185 l1 x16_1).f2).toList != t1479.toList) = true := bne_iff_ne.mpr c27
              simp only [Option.some.injEq,Prod.mk.injEq] at H
              obtain ⟨rfl,rfl⟩ := H
              have p1475 : 0 ≤ (x16_1 : Int) := zo_
              have q1475 : x16_1 < (l1.length : Int) := zo_
              obtain ⟨ad1475,e1475,hx1475_0,hx1475_1,hx1475_2⟩ := at_T185 HR1.out x16_1 p1475 q1475
              cases e1475
              replace hx1475_0 := zx_ HB hx1475_0
              replace hx1475_1 := zx_ HB hx1475_1
              replace hx1475_2 := zx_ HB hx1475_2
              replace p1475 := eq_true p1475
              replace q1475 := eq_true q1475
              try go_wp2_with (first | ((with_reducible refine gate_dst (N := 8) rfl ?_);refine zbx (N := 8) (cs := #[.int .i64 0,.int .i64 0,.string ⟨#[]⟩]) (t := 185) ?_;intro gb1476 hg w37 hbox hb;replace HO_6 := zrb HO_6 hb;have BK1476 := am_ (hbox);have GW1476 := zw_ HB hg;have GE1476 := zw_ HB hg;replace HB := zs_ HB hb;clear hb hbox hg;obtain ⟨hcz38_0,hcz38_1,hcz38_2,hfz38_0,hfz38_1,hfz38_2⟩ := zc3 BK1476))
              have n0_ : Aside0 (Kd.R (Kd.int .i64) 3 (((w37.setCell ⟨gb1476,0,none⟩ (.int .i64 ((rd_T185 l1 x16_1).f0))).setCell ⟨gb1476,1,none⟩ (.int .i64 ((rd_T185 l1 x16_1).f1))).setCell ⟨gb1476,2,none⟩ (.string ((rd_T185 l1 x16_1).f2))) w.heap.size (fun _ => True) u6 x6_1) := ⟨by (with_reducible repeat (first | apply r1_ | apply r2_ | apply r3_));exact Kd.R_mono (zrf (Kd.R_types HO_6.out BK1476.out (by decide))) (fun _ hk => trivial)⟩
              have n1_ : Aside0 ((((w37.setCell ⟨gb1476,0,none⟩ (.int .i64 ((rd_T185 l1 x16_1).f0))).setCell ⟨gb1476,1,none⟩ (.int .i64 ((rd_T185 l1 x16_1).f1))).setCell ⟨gb1476,2,none⟩ (.string ((rd_T185 l1 x16_1).f2))).heap[gb1476]? = some (.cells #[.int .i64 ((rd_T185 l1 x16_1).f0),.int .i64 ((rd_T185 l1 x16_1).f1),.string ((rd_T185 l1 x16_1).f2)] 185 (0,0))) := ⟨zq BK1476⟩
              have n2_ : Aside0 (Below w.heap.size w (((w37.setCell ⟨gb1476,0,none⟩ (.int .i64 ((rd_T185 l1 x16_1).f0))).setCell ⟨gb1476,1,none⟩ (.int .i64 ((rd_T185 l1 x16_1).f1))).setCell ⟨gb1476,2,none⟩ (.string ((rd_T185 l1 x16_1).f2)))) := ⟨zl_ HB⟩
              (try clear HO_6)
              (try clear BK1476)
              (try clear HB)
              generalize (((w37.setCell ⟨gb1476,0,none⟩ (.int .i64 ((rd_T185 l1 x16_1).f0))).setCell ⟨gb1476,1,none⟩ (.int .i64 ((rd_T185 l1 x16_1).f1))).setCell ⟨gb1476,2,none⟩ (.string ((rd_T185 l1 x16_1).f2))) = w39 at n0_ n1_ n2_ ⊢
              have HO_6 := n0_
              have BK1476 := n1_
              have HB := n2_
              clear n0_ n1_ n2_
              replace HO_6 := am_ (Kd.R_drew HO_6.out)
              replace BK1476 := am_ (blk_drew BK1476.out)
              replace HB := am_ (below_drew1 HB.out)
              have p1478 : 0 ≤ ((ji17) : Int) := zo_
              have q1478 : (ji17) < (l1.length : Int) := zo_
              obtain ⟨ad1478,e1478,hx1478_0,hx1478_1,hx1478_2⟩ := at_T185 HR1.out (ji17) p1478 q1478
              have hw1478_2 := hx1478_2
              have hw1478_1 := hx1478_1
              have hw1478_0 := hx1478_0
              obtain rfl : ad1475 = ad1478 := (by injection e1478)
              replace hx1478_0 := zx_ HB hx1478_0
              replace hx1478_1 := zx_ HB hx1478_1
              replace hx1478_2 := zx_ HB hx1478_2
              replace p1478 := eq_true p1478
              replace q1478 := eq_true q1478
              refine start_ (n := 34) (S := fun w' => w'.cell? ⟨gb1476,0,none⟩ = some (.int .i64 ((rd_T185 l1 x16_1).f0)) ∧ w'.cell? ⟨gb1476,1,none⟩ = some (.int .i64 ((rd_T185 l1 x16_1).f1)) ∧ w'.cell? ⟨gb1476,2,none⟩ = some (.string ((rd_T185 l1 x16_1).f2)) ∧ w'.cell? (ad1475.add (((ji17)).toNat * 3)) = some (.int .i64 ((rd_T185 l1 (ji17)).f0)) ∧ w'.cell? ⟨(ad1475.add (((ji17)).toNat * 3)).block,(ad1475.add (((ji17)).toNat * 3)).off + 1,none⟩ = some (.int .i64 ((rd_T185 l1 (ji17)).f1)) ∧ w'.cell? ⟨(ad1475.add (((ji17)).toNat * 3)).block,(ad1475.add (((ji17)).toNat * 3)).off + 2,none⟩ = some (.string ((rd_T185 l1 (ji17)).f2))) (ds := []) #[false,false,false,false,false,false,false,false,false,false,false,false,false,false,false,false,false,false,false,false,false,false,false,false,false,false,false,false,false,false,false,false,false,false] (by kernel_rfl) rfl rfl ⟨(blk_cell BK1476.out 0).trans rfl,(blk_cell BK1476.out 1).trans rfl,(blk_cell BK1476.out 2).trans rfl,(zx_ HB hw1478_0),(zx_ HB hw1478_1),(zx_ HB hw1478_2)⟩ (fun hHeld => ?_);refine with_tabW impl_readingsTime.tab7 impl_readingsTime.bits7 (fun HT_ HW_ => ?_)
              generalize w39.drew = w40 at HO_6 BK1476 HB hx1478_0 hx1478_1 hx1478_2 hHeld ⊢
              refine ztk 0 (N := some 21) HT_ HW_ hHeld ?_
              refine zon 1 (N := some 22) HT_ (fun K hK => ?_)
              refine zgo Tryd.func191 #[.agg #[.int .i64 ((rd_T185 l1 x16_1).f0),.int .i64 ((rd_T185 l1 x16_1).f1),.string ((rd_T185 l1 x16_1).f2)]] ?_
              with_reducible refine (impl_isReading.calls ((rd_T185 l1 x16_1).f0) ((rd_T185 l1 x16_1).f1) ((rd_T185 l1 x16_1).f2) true _ A8.out).mono ?_
              rintro e w41 ⟨rfl,hb⟩
              refine ⟨_,rfl,?_⟩
              replace BK1476 := zb BK1476 hb
              replace HB := zs_ HB hb
              (try clear hb)
              (try clear hb2)
              (try clear hk)
              (try clear hi)
              refine hK.out _ _ ⟨(blk_cell BK1476.out 0).trans rfl,(blk_cell BK1476.out 1).trans rfl,(blk_cell BK1476.out 2).trans rfl,(zx_ HB hw1478_0),(zx_ HB hw1478_1),(zx_ HB hw1478_2)⟩ (fun hHeld => ?_)
              clear hK K
              refine norm_ (a' := ?_) ?_ ?_
              rotate_left
              ·show Act.put _ (some 22) _ = _
               simp only [Act.put,p1_,p2_,p3_,i64_w,i32_w]
               rfl
              refine zpu 2 (N := some 23) HT_ ?_
              refine zpu 3 (N := some 24) HT_ ?_
              refine zpu 4 (N := some 25) HT_ ?_
              refine zpu 6 (N := some 27) HT_ ?_
              refine ztk 5 (N := some 26) HT_ HW_ hHeld ?_
              refine zpu 7 (N := some 28) HT_ ?_
              refine zpu 8 (N := some 29) HT_ ?_
              refine zpu 9 (N := some 30) HT_ ?_
              refine zpu 10 (N := some 31) HT_ ?_
              refine zpu 11 (N := some 32) HT_ ?_
              refine zpu 12 (N := some 33) HT_ ?_
              refine zpu 13 (N := some 34) HT_ ?_
              refine zpu 14 (N := some 35) HT_ ?_
              refine zpu 15 (N := some 36) HT_ ?_
              refine zpu 16 (N := some 37) HT_ ?_
              refine zpu 17 (N := some 38) HT_ ?_
              refine zpu 19 (N := some 40) HT_ ?_
              refine ztk 18 (N := some 39) HT_ HW_ hHeld ?_
              refine ztk 20 (N := some 41) HT_ HW_ hHeld ?_
              refine zpu 21 (N := some 42) HT_ ?_
              refine zpu 22 (N := some 43) HT_ ?_
              refine zpu 23 (N := some 44) HT_ ?_
              refine zpu 24 (N := some 45) HT_ ?_
              refine zpu 25 (N := some 46) HT_ ?_
              refine zpu 27 (N := some 48) HT_ ?_
              refine zpu 29 (N := some 50) HT_ ?_
              refine ztk 26 (N := some 47) HT_ HW_ hHeld ?_
              refine ztk 28 (N := some 49) HT_ HW_ hHeld ?_
              refine ztk 30 (N := some 51) HT_ HW_ hHeld ?_
              refine zon 31 (N := some 52) HT_ (fun K hK => ?_)
              refine zgo Tryd.func192 #[.int .i64 ((rd_T185 l1 x16_1).f0),.int .i64 ((rd_T185 l1 x16_1).f1)] ?_
              with_reducible refine (impl_readingMac.calls k1 ((rd_T185 l1 x16_1).f0) ((rd_T185 l1 x16_1).f1) t1479 _ ?side1 A26.out).mono ?_
              (case side1 => exact HLD.out.on (zl_ HB))
              rintro e w42 ⟨rfl,hb⟩
              refine ⟨_,rfl,?_⟩
              replace BK1476 := zb BK1476 hb
              replace HB := zs_ HB hb
              (try clear hb)
              (try clear hb2)
              (try clear hk)
              (try clear hi)
              refine hK.out _ _ ⟨(blk_cell BK1476.out 0).trans rfl,(blk_cell BK1476.out 1).trans rfl,(blk_cell BK1476.out 2).trans rfl,(zx_ HB hw1478_0),(zx_ HB hw1478_1),(zx_ HB hw1478_2)⟩ (fun hHeld => ?_)
              clear hK K
              refine norm_ (a' := ?_) ?_ ?_
              rotate_left
              ·show Act.put _ (some 52) _ = _
               simp only [Act.put,p1_,p2_,p3_,i64_w,i32_w]
               rfl
              refine zpu 32 (N := some 53) HT_ ?_
              refine zpu 33 (N := some 54) HT_ ?_
              refine done_ (done_of HT_.out (by kernel_rfl)) ?_
              try go_wp2
              go_ret2
              exact ⟨by first | rfl | (simp [e1_,e2_] <;> rfl) | (simp only [← hji17];first | rfl | (simp [e1_,e2_] <;> rfl)) | (simp [*,e1_,e2_] <;> rfl) | (simp [e3_,e4_];done) | (simp [*,e3_,e4_];done),zl_ HB⟩
           ·rw [if_neg c19] at H
            exact absurd H (by simp)
          ·rw [if_neg c18] at H
           exact absurd H (by simp)
         ·rw [if_neg c16] at H
          have c16b0 : decide (0 < x16_1) = false := decide_eq_false c16
          clear c16
          replace H := Option.bind_eq_some_iff.mp H
          obtain ⟨t1483,A430,H⟩ := H
          try dsimp only at H
          have A43 := am_ A430
          clear A430
          by_cases c44 : ((rd_T185 l1 x16_1).f2).toList = t1483.toList
          ·rw [if_pos c44] at H
           have c44b0 : (((rd_T185 l1 x16_1).f2).toList == t1483.toList) = true := beq_iff_eq.mpr c44
           have c44b1 : (((rd_T185 l1 x16_1).f2).toList != t1483.toList) = false := bne_eq_false_iff_eq.mpr c44
           clear c44
           by_cases c45 : x6_1.length < 17592186044416
           ·rw [if_pos c45] at H
            have LMc45 := am_ c45
            clear c45
            obtain ⟨y1484,hy1484⟩ : ∃ y_ : List Int,y_ = (x6_1 ++ [(rd_T185 l1 x16_1).f1]) := ⟨_,rfl⟩
            replace H : (impl_readingsTime.l0 k1 a0 l1 y1484 l1 (l1.length : Int) (wrap64 (x16_1 + 1))) = some (r1,r2) := by first | (rw [hy1484];with_reducible exact H) | (have H2_ := (Option.bind_some _ _).symm.trans H;rw [hy1484];with_reducible exact H2_) | (have H2_ := (Option.bind_some _ _).symm.trans H;with_reducible exact H2_) | with_reducible exact H | (rw [hy1484];exact H) | exact H
            have Ny1484 := am_ hy1484
            clear hy1484
            have H' := am_ H
            clear H
            have p1475 : 0 ≤ (x16_1 : Int) := zo_
            have q1475 : x16_1 < (l1.length : Int) := zo_
            obtain ⟨ad1475,e1475,hx1475_0,hx1475_1,hx1475_2⟩ := at_T185 HR1.out x16_1 p1475 q1475
            cases e1475
            replace hx1475_0 := zx_ HB hx1475_0
            replace hx1475_1 := zx_ HB hx1475_1
            replace hx1475_2 := zx_ HB hx1475_2
            replace p1475 := eq_true p1475
            replace q1475 := eq_true q1475
            try go_wp2_with (first | ((with_reducible refine gate_dst (N := 8) rfl ?_);refine zbx (N := 8) (cs := #[.int .i64 0,.int .i64 0,.string ⟨#[]⟩]) (t := 185) ?_;intro gb1476 hg w46 hbox hb;replace HO_6 := zrb HO_6 hb;have BK1476 := am_ (hbox);have GW1476 := zw_ HB hg;have GE1476 := zw_ HB hg;replace HB := zs_ HB hb;clear hb hbox hg;obtain ⟨hcz47_0,hcz47_1,hcz47_2,hfz47_0,hfz47_1,hfz47_2⟩ := zc3 BK1476))
            have n0_ : Aside0 (Kd.R (Kd.int .i64) 3 (((w46.setCell ⟨gb1476,0,none⟩ (.int .i64 ((rd_T185 l1 x16_1).f0))).setCell ⟨gb1476,1,none⟩ (.int .i64 ((rd_T185 l1 x16_1).f1))).setCell ⟨gb1476,2,none⟩ (.string ((rd_T185 l1 x16_1).f2))) w.heap.size (fun _ => True) u6 x6_1) := ⟨by (with_reducible repeat (first | apply r1_ | apply r2_ | apply r3_));exact Kd.R_mono (zrf (Kd.R_types HO_6.out BK1476.out (by decide))) (fun _ hk => trivial)⟩
            have n1_ : Aside0 ((((w46.setCell ⟨gb1476,0,none⟩ (.int .i64 ((rd_T185 l1 x16_1).f0))).setCell ⟨gb1476,1,none⟩ (.int .i64 ((rd_T185 l1 x16_1).f1))).setCell ⟨gb1476,2,none⟩ (.string ((rd_T185 l1 x16_1).f2))).heap[gb1476]? = some (.cells #[.int .i64 ((rd_T185 l1 x16_1).f0),.int .i64 ((rd_T185 l1 x16_1).f1),.string ((rd_T185 l1 x16_1).f2)] 185 (0,0))) := ⟨zq BK1476⟩
            have n2_ : Aside0 (Below w.heap.size w (((w46.setCell ⟨gb1476,0,none⟩ (.int .i64 ((rd_T185 l1 x16_1).f0))).setCell ⟨gb1476,1,none⟩ (.int .i64 ((rd_T185 l1 x16_1).f1))).setCell ⟨gb1476,2,none⟩ (.string ((rd_T185 l1 x16_1).f2)))) := ⟨zl_ HB⟩
            (try clear HO_6)
            (try clear BK1476)
            (try clear HB)
            generalize (((w46.setCell ⟨gb1476,0,none⟩ (.int .i64 ((rd_T185 l1 x16_1).f0))).setCell ⟨gb1476,1,none⟩ (.int .i64 ((rd_T185 l1 x16_1).f1))).setCell ⟨gb1476,2,none⟩ (.string ((rd_T185 l1 x16_1).f2))) = w48 at n0_ n1_ n2_ ⊢
            have HO_6 := n0_
            have BK1476 := n1_
            have HB := n2_
            clear n0_ n1_ n2_
            replace HO_6 := am_ (Kd.R_drew HO_6.out)
            replace BK1476 := am_ (blk_drew BK1476.out)
            replace HB := am_ (below_drew1 HB.out)
            refine start_ (n := 34) (S := fun w' => w'.cell? ⟨gb1476,0,none⟩ = some (.int .i64 ((rd_T185 l1 x16_1).f0)) ∧ w'.cell? ⟨gb1476,1,none⟩ = some (.int .i64 ((rd_T185 l1 x16_1).f1)) ∧ w'.cell? ⟨gb1476,2,none⟩ = some (.string ((rd_T185 l1 x16_1).f2))) (ds := []) #[false,false,false,false,false,false,false,false,false,false,false,false,false,false,false,false,false,false,false,false,false,false,false,false,false,false,false,false,false,false,false,false,false,false] (by kernel_rfl) rfl rfl ⟨(blk_cell BK1476.out 0).trans rfl,(blk_cell BK1476.out 1).trans rfl,(blk_cell BK1476.out 2).trans rfl⟩ (fun hHeld => ?_);refine with_tabW impl_readingsTime.tab7 impl_readingsTime.bits7 (fun HT_ HW_ => ?_)
            generalize w48.drew = w49 at HO_6 BK1476 HB hHeld ⊢
            refine ztk 0 (N := some 21) HT_ HW_ hHeld ?_
            refine zon 1 (N := some 22) HT_ (fun K hK => ?_)
            refine zgo Tryd.func191 #[.agg #[.int .i64 ((rd_T185 l1 x16_1).f0),.int .i64 ((rd_T185 l1 x16_1).f1),.string ((rd_T185 l1 x16_1).f2)]] ?_
            with_reducible refine (impl_isReading.calls ((rd_T185 l1 x16_1).f0) ((rd_T185 l1 x16_1).f1) ((rd_T185 l1 x16_1).f2) true _ A8.out).mono ?_
            rintro e w50 ⟨rfl,hb⟩
            refine ⟨_,rfl,?_⟩
            replace HO_6 := zrb HO_6 hb
            replace BK1476 := zb BK1476 hb
            replace HB := zs_ HB hb
            (try clear hb)
            (try clear hb2)
            (try clear hk)
            (try clear hi)
            refine hK.out _ _ ⟨(blk_cell BK1476.out 0).trans rfl,(blk_cell BK1476.out 1).trans rfl,(blk_cell BK1476.out 2).trans rfl⟩ (fun hHeld => ?_)
            clear hK K
            refine norm_ (a' := ?_) ?_ ?_
            rotate_left
            ·show Act.put _ (some 22) _ = _
             simp only [Act.put,p1_,p2_,p3_,i64_w,i32_w]
             rfl
            refine zpu 2 (N := some 23) HT_ ?_
            refine zpu 3 (N := some 24) HT_ ?_
            refine zpu 4 (N := some 25) HT_ ?_
            refine zpu 6 (N := some 27) HT_ ?_
            refine ztk 5 (N := some 26) HT_ HW_ hHeld ?_
            refine zpu 7 (N := some 28) HT_ ?_
            refine zpu 8 (N := some 29) HT_ ?_
            refine zpu 9 (N := some 30) HT_ ?_
            refine zpu 10 (N := some 31) HT_ ?_
            refine zpu 11 (N := some 32) HT_ ?_
            refine zpu 12 (N := some 33) HT_ ?_
            refine zpx 13 (N := some 34) HT_ ?_
            refine zpx 14 (N := some 35) HT_ ?_
            refine zpx 15 (N := some 36) HT_ ?_
            refine zpx 16 (N := some 37) HT_ ?_
            refine zpx 17 (N := some 38) HT_ ?_
            refine zpx 18 (N := some 39) HT_ ?_
            refine zpx 19 (N := some 40) HT_ ?_
            refine zpx 20 (N := some 41) HT_ ?_
            refine zpx 21 (N := some 42) HT_ ?_
            refine zpu 22 (N := some 43) HT_ ?_
            refine zpu 23 (N := some 44) HT_ ?_
            refine zpu 24 (N := some 45) HT_ ?_
            refine zpu 25 (N := some 46) HT_ ?_
            refine zpu 27 (N := some 48) HT_ ?_
            refine zpu 29 (N := some 50) HT_ ?_
            refine ztk 26 (N := some 47) HT_ HW_ hHeld ?_
            refine ztk 28 (N := some 49) HT_ HW_ hHeld ?_
            refine ztk 30 (N := some 51) HT_ HW_ hHeld ?_
            refine zon 31 (N := some 52) HT_ (fun K hK => ?_)
            refine zgo Tryd.func192 #[.int .i64 ((rd_T185 l1 x16_1).f0),.int .i64 ((rd_T185 l1 x16_1).f1)] ?_
            with_reducible refine (impl_readingMac.calls k1 ((rd_T185 l1 x16_1).f0) ((rd_T185 l1 x16_1).f1) t1483 _ ?side1 A43.out).mono ?_
            (case side1 => exact HLD.out.on (zl_ HB))
            rintro e w51 ⟨rfl,hb⟩
            refine ⟨_,rfl,?_⟩
            replace HO_6 := zrb HO_6 hb
            replace BK1476 := zb BK1476 hb
            replace HB := zs_ HB hb
            (try clear hb)
            (try clear hb2)
            (try clear hk)
            (try clear hi)
            refine hK.out _ _ ⟨(blk_cell BK1476.out 0).trans rfl,(blk_cell BK1476.out 1).trans rfl,(blk_cell BK1476.out 2).trans rfl⟩ (fun hHeld => ?_)
            clear hK K
            refine norm_ (a' := ?_) ?_ ?_
            rotate_left
            ·show Act.put _ (some 52) _ = _
             simp only [Act.put,p1_,p2_,p3_,i64_w,i32_w]
             rfl
            refine zpu 32 (N := some 53) HT_ ?_
            refine zpu 33 (N := some 54) HT_ ?_
            refine done_ (done_of HT_.out (by kernel_rfl)) ?_
            obtain ⟨hcz52_0,hcz52_1,hcz52_2,hfz52_0,hfz52_1,hfz52_2⟩ := zc3 BK1476
            try go_wp2_with (first | ((with_reducible refine gate_builtin (b := .append) (xs := #[.tmp 55,.tmp 58]) rfl ?_);at_builtin;refine Kd.R_append (Kd.int .i64) (w0 := w) w.heap.size rfl (.tmp 55) (.tmp 58) 24 3 (.int .i64 0) 8 rfl Tryd.underlying24 info3 rfl (by decide) (by omega) u6 x6_1 ((rd_T185 l1 x16_1).f1) [.int .i64 ((rd_T185 l1 x16_1).f1)] (fun _ => True) (fun _ => False) rfl rfl ?aP (fun _ hk => hk.elim) ?aF ?aO ?aB ?aS ?aL ?_;(case aP => exact rfl);(case aB => exact (zl_ HB));(case aF => exact (fun _ _ => trivial));(case aO => exact (zr HO_6));(case aS => exact (below_size (zl_ HB)));(case aL => have := LMc45.out;omega);intro v1485 w53 ho hb hg hat;rw [← Ny1484.out] at ho;replace HB := am_ (hb);have HO1486 := am_ (ho);clear HO_6;clear ho hb hg hat))
            go_roundg k1
            case measure => have := HK1.out;omega
            case rel => exact ⟨(y1484),(wrap64 (x16_1 + 1)),(by first | rfl | (simp;done) | (simp [*];done)),H',⟨by have := HK1.out;omega⟩,⟨zr HO1486⟩,⟨zl_ HB⟩⟩
           ·rw [if_neg c45] at H
            exact absurd H (by simp)
          ·rw [if_neg c44] at H
           have c44b0 : (((rd_T185 l1 x16_1).f2).toList == t1483.toList) = false := beq_eq_false_iff_ne.mpr c44
           have c44b1 : (((rd_T185 l1 x16_1).f2).toList != t1483.toList) = true := bne_iff_ne.mpr c44
           simp only [Option.some.injEq,Prod.mk.injEq] at H
           obtain ⟨rfl,rfl⟩ := H
           have p1475 : 0 ≤ (x16_1 : Int) := zo_
           have q1475 : x16_1 < (l1.length : Int) := zo_
           obtain ⟨ad1475,e1475,hx1475_0,hx1475_1,hx1475_2⟩ := at_T185 HR1.out x16_1 p1475 q1475
           cases e1475
           replace hx1475_0 := zx_ HB hx1475_0
           replace hx1475_1 := zx_ HB hx1475_1
           replace hx1475_2 := zx_ HB hx1475_2
           replace p1475 := eq_true p1475
           replace q1475 := eq_true q1475
           try go_wp2_with (first | ((with_reducible refine gate_dst (N := 8) rfl ?_);refine zbx (N := 8) (cs := #[.int .i64 0,.int .i64 0,.string ⟨#[]⟩]) (t := 185) ?_;intro gb1476 hg w54 hbox hb;replace HO_6 := zrb HO_6 hb;have BK1476 := am_ (hbox);have GW1476 := zw_ HB hg;have GE1476 := zw_ HB hg;replace HB := zs_ HB hb;clear hb hbox hg;obtain ⟨hcz55_0,hcz55_1,hcz55_2,hfz55_0,hfz55_1,hfz55_2⟩ := zc3 BK1476))
           have n0_ : Aside0 (Kd.R (Kd.int .i64) 3 (((w54.setCell ⟨gb1476,0,none⟩ (.int .i64 ((rd_T185 l1 x16_1).f0))).setCell ⟨gb1476,1,none⟩ (.int .i64 ((rd_T185 l1 x16_1).f1))).setCell ⟨gb1476,2,none⟩ (.string ((rd_T185 l1 x16_1).f2))) w.heap.size (fun _ => True) u6 x6_1) := ⟨by (with_reducible repeat (first | apply r1_ | apply r2_ | apply r3_));exact Kd.R_mono (zrf (Kd.R_types HO_6.out BK1476.out (by decide))) (fun _ hk => trivial)⟩
           have n1_ : Aside0 ((((w54.setCell ⟨gb1476,0,none⟩ (.int .i64 ((rd_T185 l1 x16_1).f0))).setCell ⟨gb1476,1,none⟩ (.int .i64 ((rd_T185 l1 x16_1).f1))).setCell ⟨gb1476,2,none⟩ (.string ((rd_T185 l1 x16_1).f2))).heap[gb1476]? = some (.cells #[.int .i64 ((rd_T185 l1 x16_1).f0),.int .i64 ((rd_T185 l1 x16_1).f1),.string ((rd_T185 l1 x16_1).f2)] 185 (0,0))) := ⟨zq BK1476⟩
           have n2_ : Aside0 (Below w.heap.size w (((w54.setCell ⟨gb1476,0,none⟩ (.int .i64 ((rd_T185 l1 x16_1).f0))).setCell ⟨gb1476,1,none⟩ (.int .i64 ((rd_T185 l1 x16_1).f1))).setCell ⟨gb1476,2,none⟩ (.string ((rd_T185 l1 x16_1).f2)))) := ⟨zl_ HB⟩
           (try clear HO_6)
           (try clear BK1476)
           (try clear HB)
           generalize (((w54.setCell ⟨gb1476,0,none⟩ (.int .i64 ((rd_T185 l1 x16_1).f0))).setCell ⟨gb1476,1,none⟩ (.int .i64 ((rd_T185 l1 x16_1).f1))).setCell ⟨gb1476,2,none⟩ (.string ((rd_T185 l1 x16_1).f2))) = w56 at n0_ n1_ n2_ ⊢
           have HO_6 := n0_
           have BK1476 := n1_
           have HB := n2_
           clear n0_ n1_ n2_
           replace HO_6 := am_ (Kd.R_drew HO_6.out)
           replace BK1476 := am_ (blk_drew BK1476.out)
           replace HB := am_ (below_drew1 HB.out)
           refine start_ (n := 34) (S := fun w' => w'.cell? ⟨gb1476,0,none⟩ = some (.int .i64 ((rd_T185 l1 x16_1).f0)) ∧ w'.cell? ⟨gb1476,1,none⟩ = some (.int .i64 ((rd_T185 l1 x16_1).f1)) ∧ w'.cell? ⟨gb1476,2,none⟩ = some (.string ((rd_T185 l1 x16_1).f2))) (ds := []) #[false,false,false,false,false,false,false,false,false,false,false,false,false,false,false,false,false,false,false,false,false,false,false,false,false,false,false,false,false,false,false,false,false,false] (by kernel_rfl) rfl rfl ⟨(blk_cell BK1476.out 0).trans rfl,(blk_cell BK1476.out 1).trans rfl,(blk_cell BK1476.out 2).trans rfl⟩ (fun hHeld => ?_);refine with_tabW impl_readingsTime.tab7 impl_readingsTime.bits7 (fun HT_ HW_ => ?_)
           generalize w56.drew = w57 at HO_6 BK1476 HB hHeld ⊢
           refine ztk 0 (N := some 21) HT_ HW_ hHeld ?_
           refine zon 1 (N := some 22) HT_ (fun K hK => ?_)
           refine zgo Tryd.func191 #[.agg #[.int .i64 ((rd_T185 l1 x16_1).f0),.int .i64 ((rd_T185 l1 x16_1).f1),.string ((rd_T185 l1 x16_1).f2)]] ?_
           with_reducible refine (impl_isReading.calls ((rd_T185 l1 x16_1).f0) ((rd_T185 l1 x16_1).f1) ((rd_T185 l1 x16_1).f2) true _ A8.out).mono ?_
           rintro e w58 ⟨rfl,hb⟩
           refine ⟨_,rfl,?_⟩
           replace BK1476 := zb BK1476 hb
           replace HB := zs_ HB hb
           (try clear hb)
           (try clear hb2)
           (try clear hk)
           (try clear hi)
           refine hK.out _ _ ⟨(blk_cell BK1476.out 0).trans rfl,(blk_cell BK1476.out 1).trans rfl,(blk_cell BK1476.out 2).trans rfl⟩ (fun hHeld => ?_)
           clear hK K
           refine norm_ (a' := ?_) ?_ ?_
           rotate_left
           ·show Act.put _ (some 22) _ = _
            simp only [Act.put,p1_,p2_,p3_,i64_w,i32_w]
            rfl
           refine zpu 2 (N := some 23) HT_ ?_
           refine zpu 3 (N := some 24) HT_ ?_
           refine zpu 4 (N := some 25) HT_ ?_
           refine zpu 6 (N := some 27) HT_ ?_
           refine ztk 5 (N := some 26) HT_ HW_ hHeld ?_
           refine zpu 7 (N := some 28) HT_ ?_
           refine zpu 8 (N := some 29) HT_ ?_
           refine zpu 9 (N := some 30) HT_ ?_
           refine zpu 10 (N := some 31) HT_ ?_
           refine zpu 11 (N := some 32) HT_ ?_
           refine zpu 12 (N := some 33) HT_ ?_
           refine zpx 13 (N := some 34) HT_ ?_
           refine zpx 14 (N := some 35) HT_ ?_
           refine zpx 15 (N := some 36) HT_ ?_
           refine zpx 16 (N := some 37) HT_ ?_
           refine zpx 17 (N := some 38) HT_ ?_
           refine zpx 18 (N := some 39) HT_ ?_
           refine zpx 19 (N := some 40) HT_ ?_
           refine zpx 20 (N := some 41) HT_ ?_
           refine zpx 21 (N := some 42) HT_ ?_
           refine zpu 22 (N := some 43) HT_ ?_
           refine zpu 23 (N := some 44) HT_ ?_
           refine zpu 24 (N := some 45) HT_ ?_
           refine zpu 25 (N := some 46) HT_ ?_
           refine zpu 27 (N := some 48) HT_ ?_
           refine zpu 29 (N := some 50) HT_ ?_
           refine ztk 26 (N := some 47) HT_ HW_ hHeld ?_
           refine ztk 28 (N := some 49) HT_ HW_ hHeld ?_
           refine ztk 30 (N := some 51) HT_ HW_ hHeld ?_
           refine zon 31 (N := some 52) HT_ (fun K hK => ?_)
           refine zgo Tryd.func192 #[.int .i64 ((rd_T185 l1 x16_1).f0),.int .i64 ((rd_T185 l1 x16_1).f1)] ?_
           with_reducible refine (impl_readingMac.calls k1 ((rd_T185 l1 x16_1).f0) ((rd_T185 l1 x16_1).f1) t1483 _ ?side1 A43.out).mono ?_
           (case side1 => exact HLD.out.on (zl_ HB))
           rintro e w59 ⟨rfl,hb⟩
           refine ⟨_,rfl,?_⟩
           replace BK1476 := zb BK1476 hb
           replace HB := zs_ HB hb
           (try clear hb)
           (try clear hb2)
           (try clear hk)
           (try clear hi)
           refine hK.out _ _ ⟨(blk_cell BK1476.out 0).trans rfl,(blk_cell BK1476.out 1).trans rfl,(blk_cell BK1476.out 2).trans rfl⟩ (fun hHeld => ?_)
           clear hK K
           refine norm_ (a' := ?_) ?_ ?_
           rotate_left
           ·show Act.put _ (some 52) _ = _
            simp only [Act.put,p1_,p2_,p3_,i64_w,i32_w]
            rfl
           refine zpu 32 (N := some 53) HT_ ?_
           refine zpu 33 (N := some 54) HT_ ?_
           refine done_ (done_of HT_.out (by kernel_rfl)) ?_
           try go_wp2
           go_ret2
           exact ⟨zt_,zl_ HB⟩
       ·replace c9 := Bool.eq_false_iff.mpr c9
        subst c9
        have H1 : (some (0,false)) = some (r1,r2) := by rw [if_neg (show ¬ (false = true) by decide)] at H;exact H
        clear H
        have H := H1
        clear H1
        simp only [Option.some.injEq,Prod.mk.injEq] at H
        obtain ⟨rfl,rfl⟩ := H
        have p1475 : 0 ≤ (x16_1 : Int) := zo_
        have q1475 : x16_1 < (l1.length : Int) := zo_
        obtain ⟨ad1475,e1475,hx1475_0,hx1475_1,hx1475_2⟩ := at_T185 HR1.out x16_1 p1475 q1475
        cases e1475
        replace hx1475_0 := zx_ HB hx1475_0
        replace hx1475_1 := zx_ HB hx1475_1
        replace hx1475_2 := zx_ HB hx1475_2
        replace p1475 := eq_true p1475
        replace q1475 := eq_true q1475
        try go_wp2_with (first | ((with_reducible refine gate_dst (N := 8) rfl ?_);refine zbx (N := 8) (cs := #[.int .i64 0,.int .i64 0,.string ⟨#[]⟩]) (t := 185) ?_;intro gb1476 hg w60 hbox hb;replace HO_6 := zrb HO_6 hb;have BK1476 := am_ (hbox);have GW1476 := zw_ HB hg;have GE1476 := zw_ HB hg;replace HB := zs_ HB hb;clear hb hbox hg;obtain ⟨hcz61_0,hcz61_1,hcz61_2,hfz61_0,hfz61_1,hfz61_2⟩ := zc3 BK1476))
        have n0_ : Aside0 (Kd.R (Kd.int .i64) 3 (((w60.setCell ⟨gb1476,0,none⟩ (.int .i64 ((rd_T185 l1 x16_1).f0))).setCell ⟨gb1476,1,none⟩ (.int .i64 ((rd_T185 l1 x16_1).f1))).setCell ⟨gb1476,2,none⟩ (.string ((rd_T185 l1 x16_1).f2))) w.heap.size (fun _ => True) u6 x6_1) := ⟨by (with_reducible repeat (first | apply r1_ | apply r2_ | apply r3_));exact Kd.R_mono (zrf (Kd.R_types HO_6.out BK1476.out (by decide))) (fun _ hk => trivial)⟩
        have n1_ : Aside0 ((((w60.setCell ⟨gb1476,0,none⟩ (.int .i64 ((rd_T185 l1 x16_1).f0))).setCell ⟨gb1476,1,none⟩ (.int .i64 ((rd_T185 l1 x16_1).f1))).setCell ⟨gb1476,2,none⟩ (.string ((rd_T185 l1 x16_1).f2))).heap[gb1476]? = some (.cells #[.int .i64 ((rd_T185 l1 x16_1).f0),.int .i64 ((rd_T185 l1 x16_1).f1),.string ((rd_T185 l1 x16_1).f2)] 185 (0,0))) := ⟨zq BK1476⟩
        have n2_ : Aside0 (Below w.heap.size w (((w60.setCell ⟨gb1476,0,none⟩ (.int .i64 ((rd_T185 l1 x16_1).f0))).setCell ⟨gb1476,1,none⟩ (.int .i64 ((rd_T185 l1 x16_1).f1))).setCell ⟨gb1476,2,none⟩ (.string ((rd_T185 l1 x16_1).f2)))) := ⟨zl_ HB⟩
        (try clear HO_6)
        (try clear BK1476)
        (try clear HB)
        generalize (((w60.setCell ⟨gb1476,0,none⟩ (.int .i64 ((rd_T185 l1 x16_1).f0))).setCell ⟨gb1476,1,none⟩ (.int .i64 ((rd_T185 l1 x16_1).f1))).setCell ⟨gb1476,2,none⟩ (.string ((rd_T185 l1 x16_1).f2))) = w62 at n0_ n1_ n2_ ⊢
        have HO_6 := n0_
        have BK1476 := n1_
        have HB := n2_
        clear n0_ n1_ n2_
        replace HO_6 := am_ (Kd.R_drew HO_6.out)
        replace BK1476 := am_ (blk_drew BK1476.out)
        replace HB := am_ (below_drew1 HB.out)
        refine start_ (n := 34) (S := fun w' => w'.cell? ⟨gb1476,0,none⟩ = some (.int .i64 ((rd_T185 l1 x16_1).f0)) ∧ w'.cell? ⟨gb1476,1,none⟩ = some (.int .i64 ((rd_T185 l1 x16_1).f1)) ∧ w'.cell? ⟨gb1476,2,none⟩ = some (.string ((rd_T185 l1 x16_1).f2))) (ds := []) #[false,false,false,false,false,false,false,false,false,false,false,false,false,false,false,false,false,false,false,false,false,false,false,false,false,false,false,false,false,false,false,false,false,false] (by kernel_rfl) rfl rfl ⟨(blk_cell BK1476.out 0).trans rfl,(blk_cell BK1476.out 1).trans rfl,(blk_cell BK1476.out 2).trans rfl⟩ (fun hHeld => ?_);refine with_tabW impl_readingsTime.tab7 impl_readingsTime.bits7 (fun HT_ HW_ => ?_)
        generalize w62.drew = w63 at HO_6 BK1476 HB hHeld ⊢
        refine ztk 0 (N := some 21) HT_ HW_ hHeld ?_
        refine zon 1 (N := some 22) HT_ (fun K hK => ?_)
        refine zgo Tryd.func191 #[.agg #[.int .i64 ((rd_T185 l1 x16_1).f0),.int .i64 ((rd_T185 l1 x16_1).f1),.string ((rd_T185 l1 x16_1).f2)]] ?_
        with_reducible refine (impl_isReading.calls ((rd_T185 l1 x16_1).f0) ((rd_T185 l1 x16_1).f1) ((rd_T185 l1 x16_1).f2) false _ A8.out).mono ?_
        rintro e w64 ⟨rfl,hb⟩
        refine ⟨_,rfl,?_⟩
        replace BK1476 := zb BK1476 hb
        replace HB := zs_ HB hb
        (try clear hb)
        (try clear hb2)
        (try clear hk)
        (try clear hi)
        refine hK.out _ _ ⟨(blk_cell BK1476.out 0).trans rfl,(blk_cell BK1476.out 1).trans rfl,(blk_cell BK1476.out 2).trans rfl⟩ (fun hHeld => ?_)
        clear hK K
        refine norm_ (a' := ?_) ?_ ?_
        rotate_left
        ·show Act.put _ (some 22) _ = _
         simp only [Act.put,p1_,p2_,p3_,i64_w,i32_w]
         rfl
        refine zpu 2 (N := some 23) HT_ ?_
        refine zpu 3 (N := some 24) HT_ ?_
        refine zpx 4 (N := some 25) HT_ ?_
        refine zpx 5 (N := some 26) HT_ ?_
        refine zpx 6 (N := some 27) HT_ ?_
        refine zpx 7 (N := some 28) HT_ ?_
        refine zpu 8 (N := some 29) HT_ ?_
        refine zpu 9 (N := some 30) HT_ ?_
        refine zpx 10 (N := some 31) HT_ ?_
        refine zpx 11 (N := some 32) HT_ ?_
        refine zpx 12 (N := some 33) HT_ ?_
        refine zpx 13 (N := some 34) HT_ ?_
        refine zpx 14 (N := some 35) HT_ ?_
        refine zpx 15 (N := some 36) HT_ ?_
        refine zpx 16 (N := some 37) HT_ ?_
        refine zpx 17 (N := some 38) HT_ ?_
        refine zpx 18 (N := some 39) HT_ ?_
        refine zpx 19 (N := some 40) HT_ ?_
        refine zpx 20 (N := some 41) HT_ ?_
        refine zpx 21 (N := some 42) HT_ ?_
        refine zpx 22 (N := some 43) HT_ ?_
        refine zpu 23 (N := some 44) HT_ ?_
        refine zpu 24 (N := some 45) HT_ ?_
        refine zpx 25 (N := some 46) HT_ ?_
        refine zpx 26 (N := some 47) HT_ ?_
        refine zpx 27 (N := some 48) HT_ ?_
        refine zpx 28 (N := some 49) HT_ ?_
        refine zpx 29 (N := some 50) HT_ ?_
        refine zpx 30 (N := some 51) HT_ ?_
        refine zpx 31 (N := some 52) HT_ ?_
        refine zpx 32 (N := some 53) HT_ ?_
        refine zpu 33 (N := some 54) HT_ ?_
        refine done_ (done_of HT_.out (by kernel_rfl)) ?_
        try go_wp2
        go_ret2
        exact ⟨zt_,zl_ HB⟩
      ·rw [if_neg c7] at H
       exact absurd H (by simp)
     ·rw [if_neg c6] at H
      exact absurd H (by simp)
    ·rw [if_neg c5] at H
     have c5b0 : decide (x16_1 < (l1.length : Int)) = false := decide_eq_false c5
     clear c5
     replace H := Option.bind_eq_some_iff.mp H
     obtain ⟨t1474,A650,H⟩ := H
     try dsimp only at H
     have A65 := am_ A650
     clear A650
     simp only [Option.some.injEq,Prod.mk.injEq] at H
     obtain ⟨rfl,rfl⟩ := H
     obtain ⟨Ao66,co66,eo66⟩ := Kd.R_slice HO_6.out
     subst eo66
     go_wp2_with (first | ((with_reducible refine gate_callee (f := 193) rfl ?_);refine zgl (some 62) Tryd.func193 #[.slice Ao66 x6_1.length co66] ?_;(with_reducible refine (impl_median.calls k1 _ _ x6_1 t1474 _ ?side1 ?side2 A65.out).mono ?_);(case side1 => repeat (first | exact (Kd.R_reads' HO_6.out).2.2 | (with_reducible refine Kd.C_alloc ?_ _) | (with_reducible refine Kd.C_drewN ?_ _) | (with_reducible refine Kd.C_drew ?_)));(case side2 => exact (Kd.R_reads' HO_6.out).2.1);rintro e w67 ⟨rfl,hb⟩;refine ⟨_,rfl,?_⟩;replace HB := zs_ HB hb;(try clear hb);(try clear hb2);(try clear hk);(try clear hi)))
     go_ret2
     exact ⟨zt_,zl_ HB⟩
 ·rw [if_neg c4] at H
  have c4b0 : ((l1.length : Int) == t1473) = false := beq_eq_false_iff_ne.mpr c4
  have c4b1 : ((l1.length : Int) != t1473) = true := bne_iff_ne.mpr c4
  simp only [Option.some.injEq,Prod.mk.injEq] at H
  obtain ⟨rfl,rfl⟩ := H
  go_enter Tryd.func177,Tryd.ntmps177
  go_wp2_with (first | ((with_reducible refine gate_callee (f := 190) rfl ?_);refine zgl (some 12) Tryd.func190 #[.int .i64 a0] ?_;(with_reducible refine (impl_quorum.calls a0 t1473 _ A3.out).mono ?_);rintro e w' ⟨rfl,⟨nd,rfl⟩⟩;refine ⟨_,rfl,?_⟩))
  go_ret2
  exact ⟨zt_,zl_ HB⟩
set_option maxHeartbeats 8000000 in
set_option maxRecDepth 100000 in
theorem impl_bodyTime.calls (k : Nat) (a0 : Int) (a1 : ByteArray) (r1 : Bool) (r2 : Int) (r3 : Int) (r4 : Int) (r5 : Int) (r6 : ByteArray) (r7 : List (S185)) (r8 : Int) (r9 : Bool) (w : World) (hL : Laid w) (h : impl_bodyTime.f k a0 a1 = some (r1,r2,r3,r4,r5,r6,r7,r8,r9)) :
  Calls Tryd.prog 150 #[.int .i64 a0,.string a1] w fun e w' => ∃ v6_ : Value,e = .returned (.tuple #[.agg #[.bool r1,.int .i64 r2,.int .i64 r3,.int .i64 r4,.int .i64 r5,.string r6,v6_],.int .i64 r8,.bool r9]) ∧ Kd.R k185 185 w' w.heap.size (fun _ => True) v6_ r7 ∧ Below w.heap.size w w' := by
 have hu165 := Tryd.underlying165
 have HLD := am_ hL
 clear hL
 have HB := am_ (Below.refl w.heap.size w)
 have H : ((impl_readBatch.f k a1).bind fun bt1488 => (if bt1488.2.2.2.2.2.2.2 = true then (if bt1488.1 = true then (some (bt1488.1,bt1488.2.1,bt1488.2.2.1,bt1488.2.2.2.1,bt1488.2.2.2.2.1,bt1488.2.2.2.2.2.1,bt1488.2.2.2.2.2.2.1,0,bt1488.2.2.2.2.2.2.2)) else ((impl_readingsTime.f k a0 bt1488.2.2.2.2.2.2.1).bind fun bt1499 => (some (bt1488.1,bt1488.2.1,bt1488.2.2.1,bt1488.2.2.2.1,bt1488.2.2.2.2.1,bt1488.2.2.2.2.2.1,bt1488.2.2.2.2.2.2.1,bt1499.1,bt1499.2)))) else (some (bt1488.1,bt1488.2.1,bt1488.2.2.1,bt1488.2.2.2.1,bt1488.2.2.2.2.1,bt1488.2.2.2.2.2.1,bt1488.2.2.2.2.2.2.1,0,bt1488.2.2.2.2.2.2.2)))) = some (r1,r2,r3,r4,r5,r6,r7,r8,r9) := h
 clear h
 replace H := Option.bind_eq_some_iff.mp H
 obtain ⟨⟨t1488,t1489,t1490,t1491,t1492,t1493,t1494,t1497⟩,A30,H⟩ := H
 try dsimp only at H
 have A3 := am_ A30
 clear A30
 by_cases c4 : t1497 = true
 ·subst c4
  have H1 : (if t1488 = true then (some (t1488,t1489,t1490,t1491,t1492,t1493,t1494,0,true)) else ((impl_readingsTime.f k a0 t1494).bind fun bt1499 => (some (t1488,t1489,t1490,t1491,t1492,t1493,t1494,bt1499.1,bt1499.2)))) = some (r1,r2,r3,r4,r5,r6,r7,r8,r9) := by rw [if_pos rfl] at H;exact H
  clear H
  have H := H1
  clear H1
  by_cases c5 : t1488 = true
  ·subst c5
   have H1 : (some (true,t1489,t1490,t1491,t1492,t1493,t1494,0,true)) = some (r1,r2,r3,r4,r5,r6,r7,r8,r9) := by rw [if_pos rfl] at H;exact H
   clear H
   have H := H1
   clear H1
   simp only [Option.some.injEq,Prod.mk.injEq] at H
   obtain ⟨rfl,rfl,rfl,rfl,rfl,rfl,rfl,rfl,rfl⟩ := H
   go_enter Tryd.func150,Tryd.ntmps150
   go_wp2_with (first | ((with_reducible refine gate_dst (N := 4) rfl ?_);refine zbx (N := 4) (cs := #[.bool false,.int .i64 0,.int .i64 0,.int .i64 0,.int .i64 0,.string ⟨#[]⟩,.slice none 0 0]) (t := 165) ?_;intro gb1487 hg w6 hbox hb;have BK1487 := am_ (hbox);have GW1487 := zw_ HB hg;have GE1487 := zw_ HB hg;replace HB := zs_ HB hb;clear hb hbox hg) | ((with_reducible refine gate_callee (f := 176) rfl ?_);refine zgl (some 12) Tryd.func176 #[.string a1] ?_;(with_reducible refine (impl_readBatch.calls k a1 true t1489 t1490 t1491 t1492 t1493 t1494 true _ A3.out).mono ?_);rintro e w7 ⟨v1495,rfl,ho0,hb⟩;refine ⟨_,rfl,?_⟩;have HO1496 := am_ (Kd.R_lower ho0 (below_size (zl_ HB)));replace BK1487 := zb BK1487 hb;replace HB := zs_ HB hb;(try clear hb);(try clear hb2);(try clear hk);(try clear hi);(try clear ho0)) | ((with_reducible refine gate_dst (N := 7) rfl ?_);refine zbx (N := 7) (cs := #[.bool false,.int .i64 0,.int .i64 0,.int .i64 0,.int .i64 0,.string ⟨#[]⟩,.slice none 0 0]) (t := 165) ?_;intro gb1498 hg w8 hbox hb;replace HO1496 := zrb HO1496 hb;have BK1498 := am_ (hbox);have GW1498 := zw_ HB hg;have GE1498 := zw_ HB hg;replace HB := zs_ HB hb;have NB1487_1498 := zl hg BK1487;have NB1498_1487 := zg hg BK1487;replace BK1487 := zb BK1487 hb;clear hb hbox hg;have hnb9 := NB1498_1487.out;have hnc9 := NB1487_1498.out;obtain ⟨hcz10_0,hcz10_1,hcz10_2,hcz10_3,hcz10_4,hcz10_5,hcz10_6,hfz10_0,hfz10_1,hfz10_2,hfz10_3,hfz10_4,hfz10_5,hfz10_6⟩ := zc7 BK1498;obtain ⟨Ao11,co11,eo11⟩ := Kd.R_slice HO1496.out;subst eo11;obtain ⟨hcz12_0,hcz12_1,hcz12_2,hcz12_3,hcz12_4,hcz12_5,hcz12_6,hfz12_0,hfz12_1,hfz12_2,hfz12_3,hfz12_4,hfz12_5,hfz12_6⟩ := zc7 BK1487))
   refine bodyPost_ret (results_ctt rfl _ _ gb1487 165 #[.bool true,.int .i64 t1489,.int .i64 t1490,.int .i64 t1491,.int .i64 t1492,.string t1493,.slice Ao11 t1494.length co11] (0,0) _ rfl (zq BK1487) Tryd.underlying165 rfl (by kernel_rfl)) rfl ?_
   exact ⟨_,zt_,by (with_reducible repeat (first | apply r1_ | apply r2_ | apply r3_));exact Kd.R_mono (Kd.Rf (Kd.Rf (Kd.Rf (Kd.Rf (Kd.Rf (Kd.Rf (Kd.Rf (Kd.R_far (p := ⟨gb1498,6,none⟩) (Kd.R_far (p := ⟨gb1498,5,none⟩) (Kd.R_far (p := ⟨gb1498,4,none⟩) (Kd.R_far (p := ⟨gb1498,3,none⟩) (Kd.R_far (p := ⟨gb1498,2,none⟩) (Kd.R_far (p := ⟨gb1498,1,none⟩) (Kd.R_far (p := ⟨gb1498,0,none⟩) (Kd.R_types (Kd.R_types HO1496.out BK1498.out (by decide)) BK1487.out (by decide)) (fun _ hk => hk.1.2) (.bool true)) (fun _ hk => hk.1.2) (.int .i64 t1489)) (fun _ hk => hk.1.2) (.int .i64 t1490)) (fun _ hk => hk.1.2) (.int .i64 t1491)) (fun _ hk => hk.1.2) (.int .i64 t1492)) (fun _ hk => hk.1.2) (.string t1493)) (fun _ hk => hk.1.2) (.slice Ao11 t1494.length co11))))))))) (fun _ hk => trivial),zl_ HB⟩
  ·replace c5 := Bool.eq_false_iff.mpr c5
   subst c5
   have H1 : ((impl_readingsTime.f k a0 t1494).bind fun bt1499 => (some (false,t1489,t1490,t1491,t1492,t1493,t1494,bt1499.1,bt1499.2))) = some (r1,r2,r3,r4,r5,r6,r7,r8,r9) := by rw [if_neg (show ¬ (false = true) by decide)] at H;exact H
   clear H
   have H := H1
   clear H1
   replace H := Option.bind_eq_some_iff.mp H
   obtain ⟨⟨t1499,t1500⟩,A130,H⟩ := H
   try dsimp only at H
   have A13 := am_ A130
   clear A130
   simp only [Option.some.injEq,Prod.mk.injEq] at H
   obtain ⟨rfl,rfl,rfl,rfl,rfl,rfl,rfl,rfl,rfl⟩ := H
   go_enter Tryd.func150,Tryd.ntmps150
   go_wp2_with (first | ((with_reducible refine gate_dst (N := 4) rfl ?_);refine zbx (N := 4) (cs := #[.bool false,.int .i64 0,.int .i64 0,.int .i64 0,.int .i64 0,.string ⟨#[]⟩,.slice none 0 0]) (t := 165) ?_;intro gb1487 hg w14 hbox hb;have BK1487 := am_ (hbox);have GW1487 := zw_ HB hg;have GE1487 := zw_ HB hg;replace HB := zs_ HB hb;clear hb hbox hg) | ((with_reducible refine gate_callee (f := 176) rfl ?_);refine zgl (some 12) Tryd.func176 #[.string a1] ?_;(with_reducible refine (impl_readBatch.calls k a1 false t1489 t1490 t1491 t1492 t1493 t1494 true _ A3.out).mono ?_);rintro e w15 ⟨v1495,rfl,ho0,hb⟩;refine ⟨_,rfl,?_⟩;have HO1496 := am_ (Kd.R_lower ho0 (below_size (zl_ HB)));replace BK1487 := zb BK1487 hb;replace HB := zs_ HB hb;(try clear hb);(try clear hb2);(try clear hk);(try clear hi);(try clear ho0)) | ((with_reducible refine gate_dst (N := 7) rfl ?_);refine zbx (N := 7) (cs := #[.bool false,.int .i64 0,.int .i64 0,.int .i64 0,.int .i64 0,.string ⟨#[]⟩,.slice none 0 0]) (t := 165) ?_;intro gb1498 hg w16 hbox hb;replace HO1496 := zrb HO1496 hb;have BK1498 := am_ (hbox);have GW1498 := zw_ HB hg;have GE1498 := zw_ HB hg;replace HB := zs_ HB hb;have NB1487_1498 := zl hg BK1487;have NB1498_1487 := zg hg BK1487;replace BK1487 := zb BK1487 hb;clear hb hbox hg;have hnb17 := NB1498_1487.out;have hnc17 := NB1487_1498.out;obtain ⟨hcz18_0,hcz18_1,hcz18_2,hcz18_3,hcz18_4,hcz18_5,hcz18_6,hfz18_0,hfz18_1,hfz18_2,hfz18_3,hfz18_4,hfz18_5,hfz18_6⟩ := zc7 BK1498;obtain ⟨Ao19,co19,eo19⟩ := Kd.R_slice HO1496.out;subst eo19) | ((with_reducible refine gate_callee (f := 177) rfl ?_);refine zgl (some 27) Tryd.func177 #[.int .i64 a0,.slice Ao19 t1494.length co19] ?_;(with_reducible refine (impl_readingsTime.calls k a0 _ _ t1494 t1499 t1500 _ ?side1 ?side2 ?side3 A13.out).mono ?_);(case side1 => refine (Kd.R_reads' (e := 185) (base := w.heap.size) (ok := fun k_ => True) (n := t1494.length) (c := co19) ?_).2.2;exact (by (with_reducible repeat (first | apply r1_ | apply r2_ | apply r3_));exact (Kd.R_mono (zrf (Kd.R_types HO1496.out BK1498.out (by decide))) (fun _ h_ => h_.1))));(case side2 => exact (Kd.R_reads' HO1496.out).2.1);(case side3 => exact HLD.out.on (zl_ HB));rintro e w20 ⟨rfl,hb⟩;refine ⟨_,rfl,?_⟩;replace HO1496 := am_ (Kd.R_below (by (with_reducible repeat (first | apply r1_ | apply r2_ | apply r3_));exact (Kd.R_mono (zrf (Kd.R_types HO1496.out BK1498.out (by decide))) (fun _ h_ => h_.1))) hb);replace BK1487 := am_ (blk_below (g := gb1487) (o := .cells #[.bool false,.int .i64 0,.int .i64 0,.int .i64 0,.int .i64 0,.string ⟨#[]⟩,.slice none 0 0] 165 (0,0)) (zq BK1487) hb);replace BK1498 := am_ (blk_below (g := gb1498) (o := .cells #[.bool false,.int .i64 t1489,.int .i64 t1490,.int .i64 t1491,.int .i64 t1492,.string t1493,.slice Ao19 t1494.length co19] 165 (0,0)) (zq BK1498) hb);replace HB := zs_ HB hb;(try clear hb);(try clear hb2);(try clear hk);(try clear hi);obtain ⟨hcz21_0,hcz21_1,hcz21_2,hcz21_3,hcz21_4,hcz21_5,hcz21_6,hfz21_0,hfz21_1,hfz21_2,hfz21_3,hfz21_4,hfz21_5,hfz21_6⟩ := zc7 BK1498;obtain ⟨hcz22_0,hcz22_1,hcz22_2,hcz22_3,hcz22_4,hcz22_5,hcz22_6,hfz22_0,hfz22_1,hfz22_2,hfz22_3,hfz22_4,hfz22_5,hfz22_6⟩ := zc7 BK1487))
   refine bodyPost_ret (results_ctt rfl _ _ gb1487 165 #[.bool false,.int .i64 t1489,.int .i64 t1490,.int .i64 t1491,.int .i64 t1492,.string t1493,.slice Ao19 t1494.length co19] (0,0) _ rfl (zq BK1487) Tryd.underlying165 rfl (by kernel_rfl)) rfl ?_
   exact ⟨_,zt_,by (with_reducible repeat (first | apply r1_ | apply r2_ | apply r3_));exact Kd.R_mono (zrf (Kd.R_types HO1496.out BK1487.out (by decide))) (fun _ hk => trivial),zl_ HB⟩
 ·replace c4 := Bool.eq_false_iff.mpr c4
  subst c4
  have H1 : (some (t1488,t1489,t1490,t1491,t1492,t1493,t1494,0,false)) = some (r1,r2,r3,r4,r5,r6,r7,r8,r9) := by rw [if_neg (show ¬ (false = true) by decide)] at H;exact H
  clear H
  have H := H1
  clear H1
  simp only [Option.some.injEq,Prod.mk.injEq] at H
  obtain ⟨rfl,rfl,rfl,rfl,rfl,rfl,rfl,rfl,rfl⟩ := H
  go_enter Tryd.func150,Tryd.ntmps150
  go_wp2_with (first | ((with_reducible refine gate_dst (N := 4) rfl ?_);refine zbx (N := 4) (cs := #[.bool false,.int .i64 0,.int .i64 0,.int .i64 0,.int .i64 0,.string ⟨#[]⟩,.slice none 0 0]) (t := 165) ?_;intro gb1487 hg w23 hbox hb;have BK1487 := am_ (hbox);have GW1487 := zw_ HB hg;have GE1487 := zw_ HB hg;replace HB := zs_ HB hb;clear hb hbox hg) | ((with_reducible refine gate_callee (f := 176) rfl ?_);refine zgl (some 12) Tryd.func176 #[.string a1] ?_;(with_reducible refine (impl_readBatch.calls k a1 t1488 t1489 t1490 t1491 t1492 t1493 t1494 false _ A3.out).mono ?_);rintro e w24 ⟨v1495,rfl,ho0,hb⟩;refine ⟨_,rfl,?_⟩;have HO1496 := am_ (Kd.R_lower ho0 (below_size (zl_ HB)));replace BK1487 := zb BK1487 hb;replace HB := zs_ HB hb;(try clear hb);(try clear hb2);(try clear hk);(try clear hi);(try clear ho0)) | ((with_reducible refine gate_dst (N := 7) rfl ?_);refine zbx (N := 7) (cs := #[.bool false,.int .i64 0,.int .i64 0,.int .i64 0,.int .i64 0,.string ⟨#[]⟩,.slice none 0 0]) (t := 165) ?_;intro gb1498 hg w25 hbox hb;replace HO1496 := zrb HO1496 hb;have BK1498 := am_ (hbox);have GW1498 := zw_ HB hg;have GE1498 := zw_ HB hg;replace HB := zs_ HB hb;have NB1487_1498 := zl hg BK1487;have NB1498_1487 := zg hg BK1487;replace BK1487 := zb BK1487 hb;clear hb hbox hg;have hnb26 := NB1498_1487.out;have hnc26 := NB1487_1498.out;obtain ⟨hcz27_0,hcz27_1,hcz27_2,hcz27_3,hcz27_4,hcz27_5,hcz27_6,hfz27_0,hfz27_1,hfz27_2,hfz27_3,hfz27_4,hfz27_5,hfz27_6⟩ := zc7 BK1498;obtain ⟨Ao28,co28,eo28⟩ := Kd.R_slice HO1496.out;subst eo28;obtain ⟨hcz29_0,hcz29_1,hcz29_2,hcz29_3,hcz29_4,hcz29_5,hcz29_6,hfz29_0,hfz29_1,hfz29_2,hfz29_3,hfz29_4,hfz29_5,hfz29_6⟩ := zc7 BK1487))
  refine bodyPost_ret (results_ctt rfl _ _ gb1487 165 #[.bool t1488,.int .i64 t1489,.int .i64 t1490,.int .i64 t1491,.int .i64 t1492,.string t1493,.slice Ao28 t1494.length co28] (0,0) _ rfl (zq BK1487) Tryd.underlying165 rfl (by kernel_rfl)) rfl ?_
  exact ⟨_,zt_,by (with_reducible repeat (first | apply r1_ | apply r2_ | apply r3_));exact Kd.R_mono (Kd.Rf (Kd.Rf (Kd.Rf (Kd.Rf (Kd.Rf (Kd.Rf (Kd.Rf (Kd.R_far (p := ⟨gb1498,6,none⟩) (Kd.R_far (p := ⟨gb1498,5,none⟩) (Kd.R_far (p := ⟨gb1498,4,none⟩) (Kd.R_far (p := ⟨gb1498,3,none⟩) (Kd.R_far (p := ⟨gb1498,2,none⟩) (Kd.R_far (p := ⟨gb1498,1,none⟩) (Kd.R_far (p := ⟨gb1498,0,none⟩) (Kd.R_types (Kd.R_types HO1496.out BK1498.out (by decide)) BK1487.out (by decide)) (fun _ hk => hk.1.2) (.bool t1488)) (fun _ hk => hk.1.2) (.int .i64 t1489)) (fun _ hk => hk.1.2) (.int .i64 t1490)) (fun _ hk => hk.1.2) (.int .i64 t1491)) (fun _ hk => hk.1.2) (.int .i64 t1492)) (fun _ hk => hk.1.2) (.string t1493)) (fun _ hk => hk.1.2) (.slice Ao28 t1494.length co28))))))))) (fun _ hk => trivial),zl_ HB⟩
set_option maxHeartbeats 8000000 in
set_option maxRecDepth 100000 in
theorem impl_isBody.calls (k : Nat) (a0 : Int) (a1 : ByteArray) (r : Bool) (w : World) (hL : Laid w) (h : impl_isBody.f k a0 a1 = some r) :
  Calls Tryd.prog 108 #[.int .i64 a0,.string a1] w fun e w' => e = .returned (.bool r) ∧ Below w.heap.size w w' := by
 have hu165 := Tryd.underlying165
 have HLD := am_ hL
 clear hL
 have HB := am_ (Below.refl w.heap.size w)
 have H : ((impl_bodyTime.f k a0 a1).bind fun bt1501 => (some bt1501.2.2.2.2.2.2.2.2)) = some r := h
 clear h
 replace H := Option.bind_eq_some_iff.mp H
 obtain ⟨⟨t1501,t1502,t1503,t1504,t1505,t1506,t1507,t1510,t1511⟩,A30,H⟩ := H
 try dsimp only at H
 have A3 := am_ A30
 clear A30
 obtain rfl := Option.some.inj H
 go_enter Tryd.func108,Tryd.ntmps108
 go_wp2_with (first | ((with_reducible refine gate_callee (f := 150) rfl ?_);refine zgl (some 11) Tryd.func150 #[.int .i64 a0,.string a1] ?_;(with_reducible refine (impl_bodyTime.calls k a0 a1 t1501 t1502 t1503 t1504 t1505 t1506 t1507 t1510 t1511 _ ?side1 A3.out).mono ?_);(case side1 => exact HLD.out.on (zl_ HB));rintro e w4 ⟨v1508,rfl,ho0,hb⟩;refine ⟨_,rfl,?_⟩;have HO1509 := am_ (Kd.R_lower ho0 (below_size (zl_ HB)));replace HB := zs_ HB hb;(try clear hb);(try clear hb2);(try clear hk);(try clear hi);(try clear ho0)) | ((with_reducible refine gate_dst (N := 5) rfl ?_);refine zbx (N := 5) (cs := #[.bool false,.int .i64 0,.int .i64 0,.int .i64 0,.int .i64 0,.string ⟨#[]⟩,.slice none 0 0]) (t := 165) ?_;intro gb1512 hg w5 hbox hb;replace HO1509 := zrb HO1509 hb;have BK1512 := am_ (hbox);have GW1512 := zw_ HB hg;have GE1512 := zw_ HB hg;replace HB := zs_ HB hb;clear hb hbox hg;obtain ⟨hcz6_0,hcz6_1,hcz6_2,hcz6_3,hcz6_4,hcz6_5,hcz6_6,hfz6_0,hfz6_1,hfz6_2,hfz6_3,hfz6_4,hfz6_5,hfz6_6⟩ := zc7 BK1512;obtain ⟨Ao7,co7,eo7⟩ := Kd.R_slice HO1509.out;subst eo7))
 go_ret
 exact ⟨zt_,zl_ HB⟩
set_option maxHeartbeats 8000000 in
set_option maxRecDepth 100000 in
theorem impl_BodyOK.calls (k : Nat) (a0 : Int) (a1 : ByteArray) (r : Bool) (w : World) (hL : Laid w) (h : impl_BodyOK.f k a0 a1 = some r) :
  Calls Tryd.prog 48 #[.int .i64 a0,.string a1] w fun e w' => e = .returned (.bool r) ∧ Below w.heap.size w w' := by
 have HLD := am_ hL
 clear hL
 have HB := am_ (Below.refl w.heap.size w)
 have H : ((impl_areLong.f (([a1] : List ByteArray))).bind fun t1516 => (if t1516 = true then (some false) else ((impl_areNodes.f a0).bind fun t1517 => (if t1517 = true then ((impl_isBody.f k a0 a1).bind fun t1518 => (some t1518)) else (some false))))) = some r := h
 clear h
 obtain ⟨y1513,hy1513⟩ : ∃ y_ : List ByteArray,y_ = (([a1] : List ByteArray)) := ⟨_,rfl⟩
 replace H : ((impl_areLong.f y1513).bind fun t1516 => (if t1516 = true then (some false) else ((impl_areNodes.f a0).bind fun t1517 => (if t1517 = true then ((impl_isBody.f k a0 a1).bind fun t1518 => (some t1518)) else (some false))))) = some r := by first | (rw [hy1513];with_reducible exact H) | (have H2_ := (Option.bind_some _ _).symm.trans H;rw [hy1513];with_reducible exact H2_) | (have H2_ := (Option.bind_some _ _).symm.trans H;with_reducible exact H2_) | with_reducible exact H | (rw [hy1513];exact H) | exact H
 have Ny1513 := am_ hy1513
 clear hy1513
 replace H := Option.bind_eq_some_iff.mp H
 obtain ⟨t1516,A30,H⟩ := H
 try dsimp only at H
 have A3 := am_ A30
 clear A30
 by_cases c4 : t1516 = true
 ·subst c4
  have H1 : (some false) = some r := by rw [if_pos rfl] at H;exact H
  clear H
  have H := H1
  clear H1
  obtain rfl := Option.some.inj H
  go_enter Tryd.func48,Tryd.ntmps48
  go_wp2_with (first | ((with_reducible refine gate_dst (N := 6) rfl ?_);refine Kd.R_lit Kd.string _ 9 ?hg (N := 6) ?hd (xs := ([a1] : List ByteArray)) (inner := [.string a1]) (ok := fun _ => True) (okp := fun _ => True) ?hr ?hp (fun _ hk => hk) trivial (Below.refl _ _) (Nat.le_refl _) (by simp) ?_;(case hd => rfl);(case hg => rfl);(case hr => first | (go_simp;done) | (go_simp;rfl));(case hp => exact (Reps.one (show Kd.M Kd.string _ _ _ a1 [.string a1] from rfl) (Reps.none _ _)));intro v1514 w5 ho6 hb hg_ hnew_;clear hg_ hnew_;(first | rw [← Ny1513.out] at ho6 | (simp only [Int.reduceToNat] at ho6;rw [← Ny1513.out] at ho6));have HO1515 := am_ (Kd.R_lower ho6 (below_size (zl_ HB)));replace HB := zs_ HB hb;clear hb ho6;obtain ⟨Ao7,co7,eo7⟩ := Kd.R_slice HO1515.out;subst eo7) | ((with_reducible refine gate_callee (f := 107) rfl ?_);refine zgl (some 7) Tryd.func107 #[.slice Ao7 y1513.length co7] ?_;(with_reducible refine (impl_areLong.calls _ _ y1513 true _ ?side1 ?side2 A3.out).mono ?_);(case side1 => repeat (first | exact (Kd.R_reads' HO1515.out).2.2 | (with_reducible refine Kd.C_alloc ?_ _) | (with_reducible refine Kd.C_drewN ?_ _) | (with_reducible refine Kd.C_drew ?_)));(case side2 => exact (Kd.R_reads' HO1515.out).2.1);rintro e w' ⟨rfl,⟨nd,rfl⟩⟩;refine ⟨_,rfl,?_⟩))
  go_ret
  exact ⟨zt_,zl_ HB⟩
 ·replace c4 := Bool.eq_false_iff.mpr c4
  subst c4
  have H1 : ((impl_areNodes.f a0).bind fun t1517 => (if t1517 = true then ((impl_isBody.f k a0 a1).bind fun t1518 => (some t1518)) else (some false))) = some r := by rw [if_neg (show ¬ (false = true) by decide)] at H;exact H
  clear H
  have H := H1
  clear H1
  replace H := Option.bind_eq_some_iff.mp H
  obtain ⟨t1517,A80,H⟩ := H
  try dsimp only at H
  have A8 := am_ A80
  clear A80
  by_cases c9 : t1517 = true
  ·subst c9
   have H1 : ((impl_isBody.f k a0 a1).bind fun t1518 => (some t1518)) = some r := by rw [if_pos rfl] at H;exact H
   clear H
   have H := H1
   clear H1
   replace H := Option.bind_eq_some_iff.mp H
   obtain ⟨t1518,A100,H⟩ := H
   try dsimp only at H
   have A10 := am_ A100
   clear A100
   obtain rfl := Option.some.inj H
   go_enter Tryd.func48,Tryd.ntmps48
   go_wp2_with (first | ((with_reducible refine gate_dst (N := 6) rfl ?_);refine Kd.R_lit Kd.string _ 9 ?hg (N := 6) ?hd (xs := ([a1] : List ByteArray)) (inner := [.string a1]) (ok := fun _ => True) (okp := fun _ => True) ?hr ?hp (fun _ hk => hk) trivial (Below.refl _ _) (Nat.le_refl _) (by simp) ?_;(case hd => rfl);(case hg => rfl);(case hr => first | (go_simp;done) | (go_simp;rfl));(case hp => exact (Reps.one (show Kd.M Kd.string _ _ _ a1 [.string a1] from rfl) (Reps.none _ _)));intro v1514 w11 ho12 hb hg_ hnew_;clear hg_ hnew_;(first | rw [← Ny1513.out] at ho12 | (simp only [Int.reduceToNat] at ho12;rw [← Ny1513.out] at ho12));have HO1515 := am_ (Kd.R_lower ho12 (below_size (zl_ HB)));replace HB := zs_ HB hb;clear hb ho12;obtain ⟨Ao13,co13,eo13⟩ := Kd.R_slice HO1515.out;subst eo13) | ((with_reducible refine gate_callee (f := 107) rfl ?_);refine zgl (some 7) Tryd.func107 #[.slice Ao13 y1513.length co13] ?_;(with_reducible refine (impl_areLong.calls _ _ y1513 false _ ?side1 ?side2 A3.out).mono ?_);(case side1 => repeat (first | exact (Kd.R_reads' HO1515.out).2.2 | (with_reducible refine Kd.C_alloc ?_ _) | (with_reducible refine Kd.C_drewN ?_ _) | (with_reducible refine Kd.C_drew ?_)));(case side2 => exact (Kd.R_reads' HO1515.out).2.1);rintro e w' ⟨rfl,⟨nd,rfl⟩⟩;refine ⟨_,rfl,?_⟩) | (go_at_call 61;(with_reducible refine (impl_areNodes.calls a0 true _ A8.out).mono ?_);rintro e w' ⟨rfl,⟨nd,rfl⟩⟩) | (go_at_call 108;(with_reducible refine (impl_isBody.calls k a0 a1 t1518 _ ?side1 A10.out).mono ?_);(case side1 => exact HLD.out.on (zl_ HB));rintro e w14 ⟨rfl,hb⟩;replace HO1515 := zrb HO1515 hb;replace HB := zs_ HB hb;(try clear hb);(try clear hb2);(try clear hk);(try clear hi)))
   go_ret
   exact ⟨zt_,zl_ HB⟩
  ·replace c9 := Bool.eq_false_iff.mpr c9
   subst c9
   have H1 : (some false) = some r := by rw [if_neg (show ¬ (false = true) by decide)] at H;exact H
   clear H
   have H := H1
   clear H1
   obtain rfl := Option.some.inj H
   go_enter Tryd.func48,Tryd.ntmps48
   go_wp2_with (first | ((with_reducible refine gate_dst (N := 6) rfl ?_);refine Kd.R_lit Kd.string _ 9 ?hg (N := 6) ?hd (xs := ([a1] : List ByteArray)) (inner := [.string a1]) (ok := fun _ => True) (okp := fun _ => True) ?hr ?hp (fun _ hk => hk) trivial (Below.refl _ _) (Nat.le_refl _) (by simp) ?_;(case hd => rfl);(case hg => rfl);(case hr => first | (go_simp;done) | (go_simp;rfl));(case hp => exact (Reps.one (show Kd.M Kd.string _ _ _ a1 [.string a1] from rfl) (Reps.none _ _)));intro v1514 w15 ho16 hb hg_ hnew_;clear hg_ hnew_;(first | rw [← Ny1513.out] at ho16 | (simp only [Int.reduceToNat] at ho16;rw [← Ny1513.out] at ho16));have HO1515 := am_ (Kd.R_lower ho16 (below_size (zl_ HB)));replace HB := zs_ HB hb;clear hb ho16;obtain ⟨Ao17,co17,eo17⟩ := Kd.R_slice HO1515.out;subst eo17) | ((with_reducible refine gate_callee (f := 107) rfl ?_);refine zgl (some 7) Tryd.func107 #[.slice Ao17 y1513.length co17] ?_;(with_reducible refine (impl_areLong.calls _ _ y1513 false _ ?side1 ?side2 A3.out).mono ?_);(case side1 => repeat (first | exact (Kd.R_reads' HO1515.out).2.2 | (with_reducible refine Kd.C_alloc ?_ _) | (with_reducible refine Kd.C_drewN ?_ _) | (with_reducible refine Kd.C_drew ?_)));(case side2 => exact (Kd.R_reads' HO1515.out).2.1);rintro e w' ⟨rfl,⟨nd,rfl⟩⟩;refine ⟨_,rfl,?_⟩) | (go_at_call 61;(with_reducible refine (impl_areNodes.calls a0 false _ A8.out).mono ?_);rintro e w' ⟨rfl,⟨nd,rfl⟩⟩))
   go_ret
   exact ⟨zt_,zl_ HB⟩
set_option maxHeartbeats 8000000 in
set_option maxRecDepth 100000 in
theorem spec_l04Nodes.calls (a0 : Int) (r : Bool) (w : World) (h : spec_l04Nodes.f a0 = some r) :
  Calls Tryd.prog 52 #[.int .i64 a0] w fun e w' => e = .returned (.bool r) ∧ Drawn0 w w' := by
 have H : (if a0 = 1 then (some true) else (if a0 = 4 then (some true) else (some (a0 == 7)))) = some r := h
 clear h
 by_cases c2 : a0 = 1
 ·rw [if_pos c2] at H
  have c2b0 : (a0 == 1) = true := beq_iff_eq.mpr c2
  have c2b1 : (a0 != 1) = false := bne_eq_false_iff_eq.mpr c2
  clear c2
  obtain rfl := Option.some.inj H
  go_enter Tryd.func52,Tryd.ntmps52
  go_wp2
  go_ret
  exact ⟨by first | rfl | (simp;done) | (simp [*];done),by repeat (first | exact Drawn0.refl _ | apply Drawn0.step)⟩
 ·rw [if_neg c2] at H
  have c2b0 : (a0 == 1) = false := beq_eq_false_iff_ne.mpr c2
  have c2b1 : (a0 != 1) = true := bne_iff_ne.mpr c2
  by_cases c3 : a0 = 4
  ·rw [if_pos c3] at H
   have c3b0 : (a0 == 4) = true := beq_iff_eq.mpr c3
   have c3b1 : (a0 != 4) = false := bne_eq_false_iff_eq.mpr c3
   clear c3
   obtain rfl := Option.some.inj H
   go_enter Tryd.func52,Tryd.ntmps52
   go_wp2
   go_ret
   exact ⟨by first | rfl | (simp;done) | (simp [*];done),by repeat (first | exact Drawn0.refl _ | apply Drawn0.step)⟩
  ·rw [if_neg c3] at H
   have c3b0 : (a0 == 4) = false := beq_eq_false_iff_ne.mpr c3
   have c3b1 : (a0 != 4) = true := bne_iff_ne.mpr c3
   obtain rfl := Option.some.inj H
   go_enter Tryd.func52,Tryd.ntmps52
   go_wp2
   go_ret
   exact ⟨by first | rfl | (simp;done) | (simp [*];done),by repeat (first | exact Drawn0.refl _ | apply Drawn0.step)⟩
set_option maxHeartbeats 8000000 in
set_option maxRecDepth 100000 in
theorem spec_l01In.calls (a0 : Int) (a1 : Int) (a2 : Int) (r : Bool) (w : World) (h : spec_l01In.f a0 a1 a2 = some r) :
  Calls Tryd.prog 69 #[.int .i64 a0,.int .i64 a1,.int .i64 a2] w fun e w' => e = .returned (.bool r) ∧ Drawn0 w w' := by
 have H : (if a0 ≥ a1 then (some (decide (a0 ≤ a2))) else (some false)) = some r := h
 clear h
 by_cases c4 : a0 ≥ a1
 ·rw [if_pos c4] at H
  have c4b0 : decide (a1 ≤ a0) = true := decide_eq_true c4
  clear c4
  obtain rfl := Option.some.inj H
  go_enter Tryd.func69,Tryd.ntmps69
  go_wp2
  go_ret
  exact ⟨by first | rfl | (simp;done) | (simp [*];done),by repeat (first | exact Drawn0.refl _ | apply Drawn0.step)⟩
 ·rw [if_neg c4] at H
  have c4b0 : decide (a1 ≤ a0) = false := decide_eq_false c4
  clear c4
  obtain rfl := Option.some.inj H
  go_enter Tryd.func69,Tryd.ntmps69
  go_wp2
  go_ret
  exact ⟨by first | rfl | (simp;done) | (simp [*];done),by repeat (first | exact Drawn0.refl _ | apply Drawn0.step)⟩
set_option maxHeartbeats 8000000 in
set_option maxRecDepth 100000 in
theorem spec_l00Digit.calls (a0 : Int) (r : Bool) (w : World) (h : spec_l00Digit.f a0 = some r) :
  Calls Tryd.prog 195 #[.int .u8 a0] w fun e w' => e = .returned (.bool r) ∧ Drawn0 w w' := by
 have H : (if a0 ≥ 48 then (some (decide (a0 ≤ 57))) else (some false)) = some r := h
 clear h
 by_cases c2 : a0 ≥ 48
 ·rw [if_pos c2] at H
  have c2b0 : decide (48 ≤ a0) = true := decide_eq_true c2
  clear c2
  obtain rfl := Option.some.inj H
  go_enter Tryd.func195,Tryd.ntmps195
  go_wp2
  go_ret
  exact ⟨by first | rfl | (simp;done) | (simp [*];done),by repeat (first | exact Drawn0.refl _ | apply Drawn0.step)⟩
 ·rw [if_neg c2] at H
  have c2b0 : decide (48 ≤ a0) = false := decide_eq_false c2
  clear c2
  obtain rfl := Option.some.inj H
  go_enter Tryd.func195,Tryd.ntmps195
  go_wp2
  go_ret
  exact ⟨by first | rfl | (simp;done) | (simp [*];done),by repeat (first | exact Drawn0.refl _ | apply Drawn0.step)⟩
set_option maxHeartbeats 8000000 in
set_option maxRecDepth 100000 in
theorem spec_l00Letter.calls (a0 : Int) (r : Bool) (w : World) (h : spec_l00Letter.f a0 = some r) :
  Calls Tryd.prog 194 #[.int .u8 a0] w fun e w' => e = .returned (.bool r) ∧ Drawn0 w w' := by
 have H : (if a0 ≥ 97 then (if a0 ≤ 122 then (some true) else (if a0 ≥ 65 then (if a0 ≤ 90 then (some true) else (some (a0 == 95))) else (some (a0 == 95)))) else (if a0 ≥ 65 then (if a0 ≤ 90 then (some true) else (some (a0 == 95))) else (some (a0 == 95)))) = some r := h
 clear h
 by_cases c2 : a0 ≥ 97
 ·rw [if_pos c2] at H
  have c2b0 : decide (97 ≤ a0) = true := decide_eq_true c2
  clear c2
  by_cases c3 : a0 ≤ 122
  ·rw [if_pos c3] at H
   have c3b0 : decide (a0 ≤ 122) = true := decide_eq_true c3
   clear c3
   obtain rfl := Option.some.inj H
   go_enter Tryd.func194,Tryd.ntmps194
   go_wp2
   go_ret
   exact ⟨by first | rfl | (simp;done) | (simp [*];done),by repeat (first | exact Drawn0.refl _ | apply Drawn0.step)⟩
  ·rw [if_neg c3] at H
   have c3b0 : decide (a0 ≤ 122) = false := decide_eq_false c3
   clear c3
   by_cases c4 : a0 ≥ 65
   ·rw [if_pos c4] at H
    have c4b0 : decide (65 ≤ a0) = true := decide_eq_true c4
    clear c4
    by_cases c5 : a0 ≤ 90
    ·rw [if_pos c5] at H
     have c5b0 : decide (a0 ≤ 90) = true := decide_eq_true c5
     clear c5
     obtain rfl := Option.some.inj H
     go_enter Tryd.func194,Tryd.ntmps194
     go_wp2
     go_ret
     exact ⟨by first | rfl | (simp;done) | (simp [*];done),by repeat (first | exact Drawn0.refl _ | apply Drawn0.step)⟩
    ·rw [if_neg c5] at H
     have c5b0 : decide (a0 ≤ 90) = false := decide_eq_false c5
     clear c5
     obtain rfl := Option.some.inj H
     go_enter Tryd.func194,Tryd.ntmps194
     go_wp2
     go_ret
     exact ⟨by first | rfl | (simp;done) | (simp [*];done),by repeat (first | exact Drawn0.refl _ | apply Drawn0.step)⟩
   ·rw [if_neg c4] at H
    have c4b0 : decide (65 ≤ a0) = false := decide_eq_false c4
    clear c4
    obtain rfl := Option.some.inj H
    go_enter Tryd.func194,Tryd.ntmps194
    go_wp2
    go_ret
    exact ⟨by first | rfl | (simp;done) | (simp [*];done),by repeat (first | exact Drawn0.refl _ | apply Drawn0.step)⟩
 ·rw [if_neg c2] at H
  have c2b0 : decide (97 ≤ a0) = false := decide_eq_false c2
  clear c2
  by_cases c6 : a0 ≥ 65
  ·rw [if_pos c6] at H
   have c6b0 : decide (65 ≤ a0) = true := decide_eq_true c6
   clear c6
   by_cases c7 : a0 ≤ 90
   ·rw [if_pos c7] at H
    have c7b0 : decide (a0 ≤ 90) = true := decide_eq_true c7
    clear c7
    obtain rfl := Option.some.inj H
    go_enter Tryd.func194,Tryd.ntmps194
    go_wp2
    go_ret
    exact ⟨by first | rfl | (simp;done) | (simp [*];done),by repeat (first | exact Drawn0.refl _ | apply Drawn0.step)⟩
   ·rw [if_neg c7] at H
    have c7b0 : decide (a0 ≤ 90) = false := decide_eq_false c7
    clear c7
    obtain rfl := Option.some.inj H
    go_enter Tryd.func194,Tryd.ntmps194
    go_wp2
    go_ret
    exact ⟨by first | rfl | (simp;done) | (simp [*];done),by repeat (first | exact Drawn0.refl _ | apply Drawn0.step)⟩
  ·rw [if_neg c6] at H
   have c6b0 : decide (65 ≤ a0) = false := decide_eq_false c6
   clear c6
   obtain rfl := Option.some.inj H
   go_enter Tryd.func194,Tryd.ntmps194
   go_wp2
   go_ret
   exact ⟨by first | rfl | (simp;done) | (simp [*];done),by repeat (first | exact Drawn0.refl _ | apply Drawn0.step)⟩
set_option maxHeartbeats 8000000 in
set_option maxRecDepth 100000 in
theorem spec_l00Word.calls (k : Nat) (a0 : ByteArray) (r : Bool) (w : World) (h : spec_l00Word.f k a0 = some r) :
  Calls Tryd.prog 178 #[.string a0] w fun e w' => e = .returned (.bool r) ∧ Drawn0 w w' := by
 have H : (if (a0.size : Int) < 1 then (spec_l00Word.j0 k a0 true) else (if (a0.size : Int) > 40 then (spec_l00Word.j0 k a0 true) else (if 0 < (a0.size : Int) then ((spec_l00Letter.f (bt a0 0)).bind fun t113 => (spec_l00Word.j0 k a0 (!t113))) else (none)))) = some r := h
 clear h
 have HC2 := am_ H
 clear H
 go_enter Tryd.func178,Tryd.ntmps178
 go_upto_region 1 with (fail)
 go_cut [17] (fun v17 wc => ∃ (kq : Nat) (x17_1 : Bool),v17 = .bool x17_1 ∧ Aside0 (spec_l00Word.j0 kq a0 x17_1 = some r) ∧ Aside0 (kq ≤ k) ∧ Drawn0 w wc)
 case first =>
  have H := HC2.out
  clear HC2
  by_cases c3 : (a0.size : Int) < 1
  ·rw [if_pos c3] at H
   have c3b0 : decide ((a0.size : Int) < 1) = true := decide_eq_true c3
   have c3b1 : decide (a0.size < 1) = true := decide_eq_true (by omega)
   clear c3
   (first | rw [c3b0] | (simp only [i64_w,i32_w];rw [c3b0]) | skip)
   have H' := am_ H
   clear H
   go_wp2
   go_meet
   case rel => exact ⟨_,(true),(by first | rfl | (simp;done) | (simp [*];done)),H',⟨by first | omega | exact Nat.le_refl _⟩,by repeat (first | exact Drawn0.refl _ | apply Drawn0.step)⟩
  ·rw [if_neg c3] at H
   have c3b0 : decide ((a0.size : Int) < 1) = false := decide_eq_false c3
   have c3b1 : decide (a0.size < 1) = false := decide_eq_false (by omega)
   clear c3
   (first | rw [c3b0] | (simp only [i64_w,i32_w];rw [c3b0]) | skip)
   by_cases c4 : (a0.size : Int) > 40
   ·rw [if_pos c4] at H
    have c4b0 : decide (40 < (a0.size : Int)) = true := decide_eq_true c4
    have c4b1 : decide (40 < a0.size) = true := decide_eq_true (by omega)
    clear c4
    have H' := am_ H
    clear H
    go_wp2
    go_meet
    case rel => exact ⟨_,(true),(by first | rfl | (simp;done) | (simp [*];done)),H',⟨by first | omega | exact Nat.le_refl _⟩,by repeat (first | exact Drawn0.refl _ | apply Drawn0.step)⟩
   ·rw [if_neg c4] at H
    have c4b0 : decide (40 < (a0.size : Int)) = false := decide_eq_false c4
    have c4b1 : decide (40 < a0.size) = false := decide_eq_false (by omega)
    clear c4
    by_cases c5 : 0 < (a0.size : Int)
    ·rw [if_pos c5] at H
     have c5b0 : decide (0 < (a0.size : Int)) = true := decide_eq_true c5
     have c5b1 : decide (0 < a0.size) = true := decide_eq_true (by omega)
     clear c5
     replace H := Option.bind_eq_some_iff.mp H
     obtain ⟨t113,A70,H⟩ := H
     try dsimp only at H
     have A7 := am_ A70
     clear A70
     have H' := am_ H
     clear H
     have p6 : 0 ≤ (0 : Int) := (by omega)
     have q6 : 0 < a0.size := (by have : (0 : Int) < (a0.size : Int) := zo_;omega)
     have hx6 : ∀ h : 0 < a0.size,((a0[0]'h).toNat : Int) = bt a0 0 := bt_at a0 0
     clear p6
     have qi6 : (0 < (a0.size : Int)) = True := eq_true (zo_)
     replace q6 := eq_true q6
     go_wp2_with (first | (go_at_call 194;(with_reducible refine (spec_l00Letter.calls (bt a0 0) t113 _ A7.out).mono ?_);rintro e w' ⟨rfl,⟨nd,rfl⟩⟩))
     go_meet
     case rel => exact ⟨_,(!t113),(by first | rfl | (simp;done) | (simp [*];done)),H',⟨by first | omega | exact Nat.le_refl _⟩,by repeat (first | exact Drawn0.refl _ | apply Drawn0.step)⟩
    ·rw [if_neg c5] at H
     exact absurd H (by simp)
 case rest =>
  clear HC2
  try clear c1
  try clear p2
  try clear c3
  try clear c3b0
  try clear c3b1
  try clear c4
  try clear c4b0
  try clear c4b1
  try clear c5
  try clear c5b0
  try clear c5b1
  try clear p6
  try clear q6
  try clear hx6
  try clear qi6
  try clear p6
  try clear q6
  obtain ⟨kq,x17_1,rfl,HA,HJ1,⟨mc1,rfl⟩⟩ := hcut
  cases kq with
  | zero => exact absurd HA.out (by simp [spec_l00Word.j0])
  | succ kj1 =>
   have H := HA.out
   clear HA
   simp only [spec_l00Word.j0] at H
   by_cases c8 : x17_1 = true
   ·subst c8
    have H1 : (some false) = some r := by rw [if_pos rfl] at H;exact H
    clear H
    have H := H1
    clear H1
    obtain rfl := Option.some.inj H
    go_wp2
    go_ret
    exact ⟨by first | rfl | (simp;done) | (simp [*];done),by repeat (first | exact Drawn0.refl _ | apply Drawn0.step)⟩
   ·replace c8 := Bool.eq_false_iff.mpr c8
    subst c8
    have H1 : (spec_l00Word.l0 kj1 a0 1) = some r := by rw [if_neg (show ¬ (false = true) by decide)] at H;exact H
    clear H
    have H := H1
    clear H1
    have H' := am_ H
    clear H
    go_wp2
    go_loopg [3] kj1 (fun kq v3 w' => ∃ (x3_2 : Int),v3 = .int .i64 x3_2 ∧ Aside0 (spec_l00Word.l0 kq a0 x3_2 = some r) ∧ Aside0 (kq ≤ kj1) ∧ Drawn0 w w')
    case atStart => exact ⟨(1),(by first | rfl | (simp;done) | (simp [*];done)),H',⟨Nat.le_refl _⟩,by repeat (first | exact Drawn0.refl _ | apply Drawn0.step)⟩
    case round =>
     clear H'
     try clear c1
     try clear p2
     try clear c3
     try clear c3b0
     try clear c3b1
     try clear c4
     try clear c4b0
     try clear c4b1
     try clear c5
     try clear c5b0
     try clear c5b1
     try clear p6
     try clear q6
     try clear hx6
     try clear qi6
     try clear c8
     try clear p2
     try clear p6
     try clear q6
     obtain ⟨x3_2,rfl,HA,HK2,⟨m2,rfl⟩⟩ := hrel
     cases gk with
     | zero => exact absurd HA.out (by simp [spec_l00Word.l0])
     | succ k2 =>
      have H := HA.out
      clear HA
      simp only [spec_l00Word.l0] at H
      by_cases c9 : x3_2 < (a0.size : Int)
      ·rw [if_pos c9] at H
       have c9b0 : decide (x3_2 < (a0.size : Int)) = true := decide_eq_true c9
       clear c9
       by_cases c10 : 0 ≤ x3_2
       ·rw [if_pos c10] at H
        have c10b0 : decide (0 ≤ x3_2) = true := decide_eq_true c10
        clear c10
        replace H := Option.bind_eq_some_iff.mp H
        obtain ⟨t114,A120,H⟩ := H
        try dsimp only at H
        have A12 := am_ A120
        clear A120
        by_cases c13 : t114 = true
        ·subst c13
         have H1 : (spec_l00Word.l0 k2 a0 (wrap64 (x3_2 + 1))) = some r := by rw [if_pos rfl] at H;exact H
         clear H
         have H := H1
         clear H1
         have H' := am_ H
         clear H
         have p11 : 0 ≤ (x3_2 : Int) := zo_
         have q11 : x3_2 < (a0.size : Int) := zo_
         have hx11 := bt_at a0 x3_2
         replace p11 := eq_true p11
         replace q11 := eq_true q11
         go_wp2_with (first | ((with_reducible refine gate_callee (f := 194) rfl ?_);refine zgl (some 27) Tryd.func194 #[.int .u8 (bt a0 x3_2)] ?_;(with_reducible refine (spec_l00Letter.calls (bt a0 x3_2) true _ A12.out).mono ?_);rintro e w' ⟨rfl,⟨nd,rfl⟩⟩;refine ⟨_,rfl,?_⟩))
         go_roundg k2
         case measure => have := HJ1.out;have := HK2.out;omega
         case rel => exact ⟨(wrap64 (x3_2 + 1)),(by first | rfl | (simp;done) | (simp [*];done)),H',⟨by have := HJ1.out;have := HK2.out;omega⟩,by repeat (first | exact Drawn0.refl _ | apply Drawn0.step)⟩
        ·replace c13 := Bool.eq_false_iff.mpr c13
         subst c13
         have H1 : ((spec_l00Digit.f (bt a0 x3_2)).bind fun t115 => (if t115 = true then (spec_l00Word.l0 k2 a0 (wrap64 (x3_2 + 1))) else (some false))) = some r := by rw [if_neg (show ¬ (false = true) by decide)] at H;exact H
         clear H
         have H := H1
         clear H1
         replace H := Option.bind_eq_some_iff.mp H
         obtain ⟨t115,A150,H⟩ := H
         try dsimp only at H
         have A15 := am_ A150
         clear A150
         by_cases c16 : t115 = true
         ·subst c16
          have H1 : (spec_l00Word.l0 k2 a0 (wrap64 (x3_2 + 1))) = some r := by rw [if_pos rfl] at H;exact H
          clear H
          have H := H1
          clear H1
          have H' := am_ H
          clear H
          have p11 : 0 ≤ (x3_2 : Int) := zo_
          have q11 : x3_2 < (a0.size : Int) := zo_
          have hx11 := bt_at a0 x3_2
          replace p11 := eq_true p11
          replace q11 := eq_true q11
          go_wp2_with (first | ((with_reducible refine gate_callee (f := 194) rfl ?_);refine zgl (some 27) Tryd.func194 #[.int .u8 (bt a0 x3_2)] ?_;(with_reducible refine (spec_l00Letter.calls (bt a0 x3_2) false _ A12.out).mono ?_);rintro e w' ⟨rfl,⟨nd,rfl⟩⟩;refine ⟨_,rfl,?_⟩;have p14 : 0 ≤ (x3_2 : Int) := zo_;have q14 : x3_2 < (a0.size : Int) := zo_;have hx14 := bt_at a0 x3_2;replace p14 := eq_true p14;replace q14 := eq_true q14) | (go_at_call 195;(with_reducible refine (spec_l00Digit.calls (bt a0 x3_2) true _ A15.out).mono ?_);rintro e w' ⟨rfl,⟨nd,rfl⟩⟩))
          go_roundg k2
          case measure => have := HJ1.out;have := HK2.out;omega
          case rel => exact ⟨(wrap64 (x3_2 + 1)),(by first | rfl | (simp;done) | (simp [*];done)),H',⟨by have := HJ1.out;have := HK2.out;omega⟩,by repeat (first | exact Drawn0.refl _ | apply Drawn0.step)⟩
         ·replace c16 := Bool.eq_false_iff.mpr c16
          subst c16
          have H1 : (some false) = some r := by rw [if_neg (show ¬ (false = true) by decide)] at H;exact H
          clear H
          have H := H1
          clear H1
          obtain rfl := Option.some.inj H
          have p11 : 0 ≤ (x3_2 : Int) := zo_
          have q11 : x3_2 < (a0.size : Int) := zo_
          have hx11 := bt_at a0 x3_2
          replace p11 := eq_true p11
          replace q11 := eq_true q11
          go_wp2_with (first | ((with_reducible refine gate_callee (f := 194) rfl ?_);refine zgl (some 27) Tryd.func194 #[.int .u8 (bt a0 x3_2)] ?_;(with_reducible refine (spec_l00Letter.calls (bt a0 x3_2) false _ A12.out).mono ?_);rintro e w' ⟨rfl,⟨nd,rfl⟩⟩;refine ⟨_,rfl,?_⟩;have p14 : 0 ≤ (x3_2 : Int) := zo_;have q14 : x3_2 < (a0.size : Int) := zo_;have hx14 := bt_at a0 x3_2;replace p14 := eq_true p14;replace q14 := eq_true q14) | (go_at_call 195;(with_reducible refine (spec_l00Digit.calls (bt a0 x3_2) false _ A15.out).mono ?_);rintro e w' ⟨rfl,⟨nd,rfl⟩⟩))
          go_ret
          exact ⟨by first | rfl | (simp;done) | (simp [*];done),by repeat (first | exact Drawn0.refl _ | apply Drawn0.step)⟩
       ·rw [if_neg c10] at H
        exact absurd H (by simp)
      ·rw [if_neg c9] at H
       have c9b0 : decide (x3_2 < (a0.size : Int)) = false := decide_eq_false c9
       clear c9
       obtain rfl := Option.some.inj H
       go_wp2
       go_ret
       exact ⟨by first | rfl | (simp;done) | (simp [*];done),by repeat (first | exact Drawn0.refl _ | apply Drawn0.step)⟩
set_option maxHeartbeats 8000000 in
set_option maxRecDepth 100000 in
theorem spec_NameOK.calls (k : Nat) (a0 : ByteArray) (r : Bool) (w : World) (h : spec_NameOK.f k a0 = some r) :
  Calls Tryd.prog 152 #[.string a0] w fun e w' => e = .returned (.bool r) ∧ Drawn0 w w' := by
 have H : ((spec_l00Word.f k a0).bind fun t116 => (some t116)) = some r := h
 clear h
 replace H := Option.bind_eq_some_iff.mp H
 obtain ⟨t116,A20,H⟩ := H
 try dsimp only at H
 have A2 := am_ A20
 clear A20
 obtain rfl := Option.some.inj H
 go_enter Tryd.func152,Tryd.ntmps152
 go_wp2_with (first | ((with_reducible refine gate_callee (f := 178) rfl ?_);refine zgl (some 4) Tryd.func178 #[.string a0] ?_;(with_reducible refine (spec_l00Word.calls k a0 t116 _ A2.out).mono ?_);rintro e w' ⟨rfl,⟨nd,rfl⟩⟩;refine ⟨_,rfl,?_⟩))
 go_ret
 exact ⟨by first | rfl | (simp;done) | (simp [*];done),by repeat (first | exact Drawn0.refl _ | apply Drawn0.step)⟩
set_option maxHeartbeats 8000000 in
set_option maxRecDepth 100000 in
theorem spec_l02Text.calls (k : Nat) (a0 : ByteArray) (a1 : Int) (r : Bool) (w : World) (h : spec_l02Text.f k a0 a1 = some r) :
  Calls Tryd.prog 110 #[.string a0,.int .i64 a1] w fun e w' => e = .returned (.bool r) ∧ Drawn0 w w' := by
 have H : ((spec_l01In.f (a0.size : Int) 1 a1).bind fun t117 => (if t117 = true then ((spec_NameOK.f k a0).bind fun t118 => (some t118)) else (some false))) = some r := h
 clear h
 replace H := Option.bind_eq_some_iff.mp H
 obtain ⟨t117,A30,H⟩ := H
 try dsimp only at H
 have A3 := am_ A30
 clear A30
 by_cases c4 : t117 = true
 ·subst c4
  have H1 : ((spec_NameOK.f k a0).bind fun t118 => (some t118)) = some r := by rw [if_pos rfl] at H;exact H
  clear H
  have H := H1
  clear H1
  replace H := Option.bind_eq_some_iff.mp H
  obtain ⟨t118,A50,H⟩ := H
  try dsimp only at H
  have A5 := am_ A50
  clear A50
  obtain rfl := Option.some.inj H
  go_enter Tryd.func110,Tryd.ntmps110
  go_wp2_with (first | ((with_reducible refine gate_callee (f := 69) rfl ?_);refine zgl (some 8) Tryd.func69 #[.int .i64 (a0.size : Int),.int .i64 1,.int .i64 a1] ?_;(with_reducible refine (spec_l01In.calls (a0.size : Int) 1 a1 true _ A3.out).mono ?_);rintro e w' ⟨rfl,⟨nd,rfl⟩⟩;refine ⟨_,rfl,?_⟩) | (go_at_call 152;(with_reducible refine (spec_NameOK.calls k a0 t118 _ A5.out).mono ?_);rintro e w' ⟨rfl,⟨nd,rfl⟩⟩))
  go_ret
  exact ⟨by first | rfl | (simp;done) | (simp [*];done),by repeat (first | exact Drawn0.refl _ | apply Drawn0.step)⟩
 ·replace c4 := Bool.eq_false_iff.mpr c4
  subst c4
  have H1 : (some false) = some r := by rw [if_neg (show ¬ (false = true) by decide)] at H;exact H
  clear H
  have H := H1
  clear H1
  obtain rfl := Option.some.inj H
  go_enter Tryd.func110,Tryd.ntmps110
  go_wp2_with (first | ((with_reducible refine gate_callee (f := 69) rfl ?_);refine zgl (some 8) Tryd.func69 #[.int .i64 (a0.size : Int),.int .i64 1,.int .i64 a1] ?_;(with_reducible refine (spec_l01In.calls (a0.size : Int) 1 a1 false _ A3.out).mono ?_);rintro e w' ⟨rfl,⟨nd,rfl⟩⟩;refine ⟨_,rfl,?_⟩))
  go_ret
  exact ⟨by first | rfl | (simp;done) | (simp [*];done),by repeat (first | exact Drawn0.refl _ | apply Drawn0.step)⟩
set_option maxHeartbeats 8000000 in
set_option maxRecDepth 100000 in
theorem spec_RequestOK.calls (k : Nat) (a0_0 : Int) (a0_1 : Int) (a0_2 : Int) (a0_3 : Int) (a0_4 : ByteArray) (r : Bool) (w : World) (h : spec_RequestOK.f k a0_0 a0_1 a0_2 a0_3 a0_4 = some r) :
  Calls Tryd.prog 96 #[.agg #[.int .i64 a0_0,.int .i64 a0_1,.int .i64 a0_2,.int .i64 a0_3,.string a0_4]] w fun e w' => e = .returned (.bool r) ∧ Below w.heap.size w w' := by
 have hu85 := Tryd.underlying85
 have HB := am_ (Below.refl w.heap.size w)
 have H : ((spec_l01In.f a0_0 0 255).bind fun t1175 => (if t1175 = true then ((spec_l01In.f a0_1 1 65535).bind fun t1176 => (if t1176 = true then ((spec_l01In.f a0_2 1 4).bind fun t1177 => (if t1177 = true then ((spec_l01In.f a0_3 0 1000).bind fun t1178 => (if t1178 = true then ((spec_l02Text.f k a0_4 12).bind fun t1179 => (if t1179 = true then (if a0_2 = 1 then (some ((decide (a0_3 > 0)) == true)) else (some ((decide (a0_3 > 0)) == (a0_2 == 3)))) else (some false))) else (some false))) else (some false))) else (some false))) else (some false))) = some r := h
 clear h
 replace H := Option.bind_eq_some_iff.mp H
 obtain ⟨t1175,A20,H⟩ := H
 try dsimp only at H
 have A2 := am_ A20
 clear A20
 by_cases c3 : t1175 = true
 ·subst c3
  have H1 : ((spec_l01In.f a0_1 1 65535).bind fun t1176 => (if t1176 = true then ((spec_l01In.f a0_2 1 4).bind fun t1177 => (if t1177 = true then ((spec_l01In.f a0_3 0 1000).bind fun t1178 => (if t1178 = true then ((spec_l02Text.f k a0_4 12).bind fun t1179 => (if t1179 = true then (if a0_2 = 1 then (some ((decide (a0_3 > 0)) == true)) else (some ((decide (a0_3 > 0)) == (a0_2 == 3)))) else (some false))) else (some false))) else (some false))) else (some false))) = some r := by rw [if_pos rfl] at H;exact H
  clear H
  have H := H1
  clear H1
  replace H := Option.bind_eq_some_iff.mp H
  obtain ⟨t1176,A40,H⟩ := H
  try dsimp only at H
  have A4 := am_ A40
  clear A40
  by_cases c5 : t1176 = true
  ·subst c5
   have H1 : ((spec_l01In.f a0_2 1 4).bind fun t1177 => (if t1177 = true then ((spec_l01In.f a0_3 0 1000).bind fun t1178 => (if t1178 = true then ((spec_l02Text.f k a0_4 12).bind fun t1179 => (if t1179 = true then (if a0_2 = 1 then (some ((decide (a0_3 > 0)) == true)) else (some ((decide (a0_3 > 0)) == (a0_2 == 3)))) else (some false))) else (some false))) else (some false))) = some r := by rw [if_pos rfl] at H;exact H
   clear H
   have H := H1
   clear H1
   replace H := Option.bind_eq_some_iff.mp H
   obtain ⟨t1177,A60,H⟩ := H
   try dsimp only at H
   have A6 := am_ A60
   clear A60
   by_cases c7 : t1177 = true
   ·subst c7
    have H1 : ((spec_l01In.f a0_3 0 1000).bind fun t1178 => (if t1178 = true then ((spec_l02Text.f k a0_4 12).bind fun t1179 => (if t1179 = true then (if a0_2 = 1 then (some ((decide (a0_3 > 0)) == true)) else (some ((decide (a0_3 > 0)) == (a0_2 == 3)))) else (some false))) else (some false))) = some r := by rw [if_pos rfl] at H;exact H
    clear H
    have H := H1
    clear H1
    replace H := Option.bind_eq_some_iff.mp H
    obtain ⟨t1178,A80,H⟩ := H
    try dsimp only at H
    have A8 := am_ A80
    clear A80
    by_cases c9 : t1178 = true
    ·subst c9
     have H1 : ((spec_l02Text.f k a0_4 12).bind fun t1179 => (if t1179 = true then (if a0_2 = 1 then (some ((decide (a0_3 > 0)) == true)) else (some ((decide (a0_3 > 0)) == (a0_2 == 3)))) else (some false))) = some r := by rw [if_pos rfl] at H;exact H
     clear H
     have H := H1
     clear H1
     replace H := Option.bind_eq_some_iff.mp H
     obtain ⟨t1179,A100,H⟩ := H
     try dsimp only at H
     have A10 := am_ A100
     clear A100
     by_cases c11 : t1179 = true
     ·subst c11
      have H1 : (if a0_2 = 1 then (some ((decide (a0_3 > 0)) == true)) else (some ((decide (a0_3 > 0)) == (a0_2 == 3)))) = some r := by rw [if_pos rfl] at H;exact H
      clear H
      have H := H1
      clear H1
      by_cases c12 : a0_2 = 1
      ·rw [if_pos c12] at H
       have c12b0 : (a0_2 == 1) = true := beq_iff_eq.mpr c12
       have c12b1 : (a0_2 != 1) = false := bne_eq_false_iff_eq.mpr c12
       clear c12
       obtain rfl := Option.some.inj H
       go_enter Tryd.func96,Tryd.ntmps96
       go_wp2_with (first | ((with_reducible refine gate_dst (N := 1) rfl ?_);refine zbx (N := 1) (cs := #[.int .i64 a0_0,.int .i64 a0_1,.int .i64 a0_2,.int .i64 a0_3,.string a0_4]) (t := 85) ?_;intro gb1174 hg w13 hbox hb;have BK1174 := am_ (hbox);have GW1174 := zw_ HB hg;have GE1174 := zw_ HB hg;replace HB := zs_ HB hb;clear hb hbox hg;obtain ⟨hcz14_0,hcz14_1,hcz14_2,hcz14_3,hcz14_4,hfz14_0,hfz14_1,hfz14_2,hfz14_3,hfz14_4⟩ := zc5 BK1174) | ((with_reducible refine gate_callee (f := 69) rfl ?_);refine zgl (some 5) Tryd.func69 #[.int .i64 a0_0,.int .i64 0,.int .i64 255] ?_;(with_reducible refine (spec_l01In.calls a0_0 0 255 true _ A2.out).mono ?_);rintro e w' ⟨rfl,⟨nd,rfl⟩⟩;refine ⟨_,rfl,?_⟩) | (go_at_call 69;(with_reducible refine (spec_l01In.calls a0_1 1 65535 true _ A4.out).mono ?_);rintro e w' ⟨rfl,⟨nd,rfl⟩⟩) | (go_at_call 69;(with_reducible refine (spec_l01In.calls a0_2 1 4 true _ A6.out).mono ?_);rintro e w' ⟨rfl,⟨nd,rfl⟩⟩) | (go_at_call 69;(with_reducible refine (spec_l01In.calls a0_3 0 1000 true _ A8.out).mono ?_);rintro e w' ⟨rfl,⟨nd,rfl⟩⟩) | (go_at_call 110;(with_reducible refine (spec_l02Text.calls k a0_4 12 true _ A10.out).mono ?_);rintro e w' ⟨rfl,⟨nd,rfl⟩⟩))
       go_ret
       exact ⟨zt_,zl_ HB⟩
      ·rw [if_neg c12] at H
       have c12b0 : (a0_2 == 1) = false := beq_eq_false_iff_ne.mpr c12
       have c12b1 : (a0_2 != 1) = true := bne_iff_ne.mpr c12
       obtain rfl := Option.some.inj H
       go_enter Tryd.func96,Tryd.ntmps96
       go_wp2_with (first | ((with_reducible refine gate_dst (N := 1) rfl ?_);refine zbx (N := 1) (cs := #[.int .i64 a0_0,.int .i64 a0_1,.int .i64 a0_2,.int .i64 a0_3,.string a0_4]) (t := 85) ?_;intro gb1174 hg w15 hbox hb;have BK1174 := am_ (hbox);have GW1174 := zw_ HB hg;have GE1174 := zw_ HB hg;replace HB := zs_ HB hb;clear hb hbox hg;obtain ⟨hcz16_0,hcz16_1,hcz16_2,hcz16_3,hcz16_4,hfz16_0,hfz16_1,hfz16_2,hfz16_3,hfz16_4⟩ := zc5 BK1174) | ((with_reducible refine gate_callee (f := 69) rfl ?_);refine zgl (some 5) Tryd.func69 #[.int .i64 a0_0,.int .i64 0,.int .i64 255] ?_;(with_reducible refine (spec_l01In.calls a0_0 0 255 true _ A2.out).mono ?_);rintro e w' ⟨rfl,⟨nd,rfl⟩⟩;refine ⟨_,rfl,?_⟩) | (go_at_call 69;(with_reducible refine (spec_l01In.calls a0_1 1 65535 true _ A4.out).mono ?_);rintro e w' ⟨rfl,⟨nd,rfl⟩⟩) | (go_at_call 69;(with_reducible refine (spec_l01In.calls a0_2 1 4 true _ A6.out).mono ?_);rintro e w' ⟨rfl,⟨nd,rfl⟩⟩) | (go_at_call 69;(with_reducible refine (spec_l01In.calls a0_3 0 1000 true _ A8.out).mono ?_);rintro e w' ⟨rfl,⟨nd,rfl⟩⟩) | (go_at_call 110;(with_reducible refine (spec_l02Text.calls k a0_4 12 true _ A10.out).mono ?_);rintro e w' ⟨rfl,⟨nd,rfl⟩⟩))
       go_ret
       exact ⟨zt_,zl_ HB⟩
     ·replace c11 := Bool.eq_false_iff.mpr c11
      subst c11
      have H1 : (some false) = some r := by rw [if_neg (show ¬ (false = true) by decide)] at H;exact H
      clear H
      have H := H1
      clear H1
      obtain rfl := Option.some.inj H
      go_enter Tryd.func96,Tryd.ntmps96
      go_wp2_with (first | ((with_reducible refine gate_dst (N := 1) rfl ?_);refine zbx (N := 1) (cs := #[.int .i64 a0_0,.int .i64 a0_1,.int .i64 a0_2,.int .i64 a0_3,.string a0_4]) (t := 85) ?_;intro gb1174 hg w17 hbox hb;have BK1174 := am_ (hbox);have GW1174 := zw_ HB hg;have GE1174 := zw_ HB hg;replace HB := zs_ HB hb;clear hb hbox hg;obtain ⟨hcz18_0,hcz18_1,hcz18_2,hcz18_3,hcz18_4,hfz18_0,hfz18_1,hfz18_2,hfz18_3,hfz18_4⟩ := zc5 BK1174) | ((with_reducible refine gate_callee (f := 69) rfl ?_);refine zgl (some 5) Tryd.func69 #[.int .i64 a0_0,.int .i64 0,.int .i64 255] ?_;(with_reducible refine (spec_l01In.calls a0_0 0 255 true _ A2.out).mono ?_);rintro e w' ⟨rfl,⟨nd,rfl⟩⟩;refine ⟨_,rfl,?_⟩) | (go_at_call 69;(with_reducible refine (spec_l01In.calls a0_1 1 65535 true _ A4.out).mono ?_);rintro e w' ⟨rfl,⟨nd,rfl⟩⟩) | (go_at_call 69;(with_reducible refine (spec_l01In.calls a0_2 1 4 true _ A6.out).mono ?_);rintro e w' ⟨rfl,⟨nd,rfl⟩⟩) | (go_at_call 69;(with_reducible refine (spec_l01In.calls a0_3 0 1000 true _ A8.out).mono ?_);rintro e w' ⟨rfl,⟨nd,rfl⟩⟩) | (go_at_call 110;(with_reducible refine (spec_l02Text.calls k a0_4 12 false _ A10.out).mono ?_);rintro e w' ⟨rfl,⟨nd,rfl⟩⟩))
      go_ret
      exact ⟨zt_,zl_ HB⟩
    ·replace c9 := Bool.eq_false_iff.mpr c9
     subst c9
     have H1 : (some false) = some r := by rw [if_neg (show ¬ (false = true) by decide)] at H;exact H
     clear H
     have H := H1
     clear H1
     obtain rfl := Option.some.inj H
     go_enter Tryd.func96,Tryd.ntmps96
     go_wp2_with (first | ((with_reducible refine gate_dst (N := 1) rfl ?_);refine zbx (N := 1) (cs := #[.int .i64 a0_0,.int .i64 a0_1,.int .i64 a0_2,.int .i64 a0_3,.string a0_4]) (t := 85) ?_;intro gb1174 hg w19 hbox hb;have BK1174 := am_ (hbox);have GW1174 := zw_ HB hg;have GE1174 := zw_ HB hg;replace HB := zs_ HB hb;clear hb hbox hg;obtain ⟨hcz20_0,hcz20_1,hcz20_2,hcz20_3,hcz20_4,hfz20_0,hfz20_1,hfz20_2,hfz20_3,hfz20_4⟩ := zc5 BK1174) | ((with_reducible refine gate_callee (f := 69) rfl ?_);refine zgl (some 5) Tryd.func69 #[.int .i64 a0_0,.int .i64 0,.int .i64 255] ?_;(with_reducible refine (spec_l01In.calls a0_0 0 255 true _ A2.out).mono ?_);rintro e w' ⟨rfl,⟨nd,rfl⟩⟩;refine ⟨_,rfl,?_⟩) | (go_at_call 69;(with_reducible refine (spec_l01In.calls a0_1 1 65535 true _ A4.out).mono ?_);rintro e w' ⟨rfl,⟨nd,rfl⟩⟩) | (go_at_call 69;(with_reducible refine (spec_l01In.calls a0_2 1 4 true _ A6.out).mono ?_);rintro e w' ⟨rfl,⟨nd,rfl⟩⟩) | (go_at_call 69;(with_reducible refine (spec_l01In.calls a0_3 0 1000 false _ A8.out).mono ?_);rintro e w' ⟨rfl,⟨nd,rfl⟩⟩))
     go_ret
     exact ⟨zt_,zl_ HB⟩
   ·replace c7 := Bool.eq_false_iff.mpr c7
    subst c7
    have H1 : (some false) = some r := by rw [if_neg (show ¬ (false = true) by decide)] at H;exact H
    clear H
    have H := H1
    clear H1
    obtain rfl := Option.some.inj H
    go_enter Tryd.func96,Tryd.ntmps96
    go_wp2_with (first | ((with_reducible refine gate_dst (N := 1) rfl ?_);refine zbx (N := 1) (cs := #[.int .i64 a0_0,.int .i64 a0_1,.int .i64 a0_2,.int .i64 a0_3,.string a0_4]) (t := 85) ?_;intro gb1174 hg w21 hbox hb;have BK1174 := am_ (hbox);have GW1174 := zw_ HB hg;have GE1174 := zw_ HB hg;replace HB := zs_ HB hb;clear hb hbox hg;obtain ⟨hcz22_0,hcz22_1,hcz22_2,hcz22_3,hcz22_4,hfz22_0,hfz22_1,hfz22_2,hfz22_3,hfz22_4⟩ := zc5 BK1174) | ((with_reducible refine gate_callee (f := 69) rfl ?_);refine zgl (some 5) Tryd.func69 #[.int .i64 a0_0,.int .i64 0,.int .i64 255] ?_;(with_reducible refine (spec_l01In.calls a0_0 0 255 true _ A2.out).mono ?_);rintro e w' ⟨rfl,⟨nd,rfl⟩⟩;refine ⟨_,rfl,?_⟩) | (go_at_call 69;(with_reducible refine (spec_l01In.calls a0_1 1 65535 true _ A4.out).mono ?_);rintro e w' ⟨rfl,⟨nd,rfl⟩⟩) | (go_at_call 69;(with_reducible refine (spec_l01In.calls a0_2 1 4 false _ A6.out).mono ?_);rintro e w' ⟨rfl,⟨nd,rfl⟩⟩))
    go_ret
    exact ⟨zt_,zl_ HB⟩
  ·replace c5 := Bool.eq_false_iff.mpr c5
   subst c5
   have H1 : (some false) = some r := by rw [if_neg (show ¬ (false = true) by decide)] at H;exact H
   clear H
   have H := H1
   clear H1
   obtain rfl := Option.some.inj H
   go_enter Tryd.func96,Tryd.ntmps96
   go_wp2_with (first | ((with_reducible refine gate_dst (N := 1) rfl ?_);refine zbx (N := 1) (cs := #[.int .i64 a0_0,.int .i64 a0_1,.int .i64 a0_2,.int .i64 a0_3,.string a0_4]) (t := 85) ?_;intro gb1174 hg w23 hbox hb;have BK1174 := am_ (hbox);have GW1174 := zw_ HB hg;have GE1174 := zw_ HB hg;replace HB := zs_ HB hb;clear hb hbox hg;obtain ⟨hcz24_0,hcz24_1,hcz24_2,hcz24_3,hcz24_4,hfz24_0,hfz24_1,hfz24_2,hfz24_3,hfz24_4⟩ := zc5 BK1174) | ((with_reducible refine gate_callee (f := 69) rfl ?_);refine zgl (some 5) Tryd.func69 #[.int .i64 a0_0,.int .i64 0,.int .i64 255] ?_;(with_reducible refine (spec_l01In.calls a0_0 0 255 true _ A2.out).mono ?_);rintro e w' ⟨rfl,⟨nd,rfl⟩⟩;refine ⟨_,rfl,?_⟩) | (go_at_call 69;(with_reducible refine (spec_l01In.calls a0_1 1 65535 false _ A4.out).mono ?_);rintro e w' ⟨rfl,⟨nd,rfl⟩⟩))
   go_ret
   exact ⟨zt_,zl_ HB⟩
 ·replace c3 := Bool.eq_false_iff.mpr c3
  subst c3
  have H1 : (some false) = some r := by rw [if_neg (show ¬ (false = true) by decide)] at H;exact H
  clear H
  have H := H1
  clear H1
  obtain rfl := Option.some.inj H
  go_enter Tryd.func96,Tryd.ntmps96
  go_wp2_with (first | ((with_reducible refine gate_dst (N := 1) rfl ?_);refine zbx (N := 1) (cs := #[.int .i64 a0_0,.int .i64 a0_1,.int .i64 a0_2,.int .i64 a0_3,.string a0_4]) (t := 85) ?_;intro gb1174 hg w25 hbox hb;have BK1174 := am_ (hbox);have GW1174 := zw_ HB hg;have GE1174 := zw_ HB hg;replace HB := zs_ HB hb;clear hb hbox hg;obtain ⟨hcz26_0,hcz26_1,hcz26_2,hcz26_3,hcz26_4,hfz26_0,hfz26_1,hfz26_2,hfz26_3,hfz26_4⟩ := zc5 BK1174) | ((with_reducible refine gate_callee (f := 69) rfl ?_);refine zgl (some 5) Tryd.func69 #[.int .i64 a0_0,.int .i64 0,.int .i64 255] ?_;(with_reducible refine (spec_l01In.calls a0_0 0 255 false _ A2.out).mono ?_);rintro e w' ⟨rfl,⟨nd,rfl⟩⟩;refine ⟨_,rfl,?_⟩))
  go_ret
  exact ⟨zt_,zl_ HB⟩
set_option maxHeartbeats 8000000 in
set_option maxRecDepth 100000 in
theorem spec_l02Reading.calls (a0_0 : Int) (a0_1 : Int) (a0_2 : ByteArray) (r : Bool) (w : World) (h : spec_l02Reading.f a0_0 a0_1 a0_2 = some r) :
  Calls Tryd.prog 172 #[.agg #[.int .i64 a0_0,.int .i64 a0_1,.string a0_2]] w fun e w' => e = .returned (.bool r) ∧ Below w.heap.size w w' := by
 have hu185 := Tryd.underlying185
 have HB := am_ (Below.refl w.heap.size w)
 have H : ((spec_l01In.f a0_0 0 6).bind fun t1311 => (if t1311 = true then ((spec_l01In.f a0_1 0 1000000000).bind fun t1312 => (if t1312 = true then (some ((a0_2.size : Int) == 8)) else (some false))) else (some false))) = some r := h
 clear h
 replace H := Option.bind_eq_some_iff.mp H
 obtain ⟨t1311,A20,H⟩ := H
 try dsimp only at H
 have A2 := am_ A20
 clear A20
 by_cases c3 : t1311 = true
 ·subst c3
  have H1 : ((spec_l01In.f a0_1 0 1000000000).bind fun t1312 => (if t1312 = true then (some ((a0_2.size : Int) == 8)) else (some false))) = some r := by rw [if_pos rfl] at H;exact H
  clear H
  have H := H1
  clear H1
  replace H := Option.bind_eq_some_iff.mp H
  obtain ⟨t1312,A40,H⟩ := H
  try dsimp only at H
  have A4 := am_ A40
  clear A40
  by_cases c5 : t1312 = true
  ·subst c5
   have H1 : (some ((a0_2.size : Int) == 8)) = some r := by rw [if_pos rfl] at H;exact H
   clear H
   have H := H1
   clear H1
   obtain rfl := Option.some.inj H
   go_enter Tryd.func172,Tryd.ntmps172
   go_wp2_with (first | ((with_reducible refine gate_dst (N := 1) rfl ?_);(try (refine gate_guard (by rfl) ?_;dsimp only));refine zbx (N := 1) (cs := #[.int .i64 a0_0,.int .i64 a0_1,.string a0_2]) (t := 185) ?_;intro gb1310 hg w6 hbox hb;have BK1310 := am_ (hbox);have GW1310 := zw_ HB hg;have GE1310 := zw_ HB hg;replace HB := zs_ HB hb;clear hb hbox hg;obtain ⟨hcz7_0,hcz7_1,hcz7_2,hfz7_0,hfz7_1,hfz7_2⟩ := zc3 BK1310) | ((with_reducible refine gate_callee (f := 69) rfl ?_);refine zgl (some 5) Tryd.func69 #[.int .i64 a0_0,.int .i64 0,.int .i64 6] ?_;(with_reducible refine (spec_l01In.calls a0_0 0 6 true _ A2.out).mono ?_);rintro e w' ⟨rfl,⟨nd,rfl⟩⟩;refine ⟨_,rfl,?_⟩) | (go_at_call 69;(with_reducible refine (spec_l01In.calls a0_1 0 1000000000 true _ A4.out).mono ?_);rintro e w' ⟨rfl,⟨nd,rfl⟩⟩))
   go_ret
   exact ⟨zt_,zl_ HB⟩
  ·replace c5 := Bool.eq_false_iff.mpr c5
   subst c5
   have H1 : (some false) = some r := by rw [if_neg (show ¬ (false = true) by decide)] at H;exact H
   clear H
   have H := H1
   clear H1
   obtain rfl := Option.some.inj H
   go_enter Tryd.func172,Tryd.ntmps172
   go_wp2_with (first | ((with_reducible refine gate_dst (N := 1) rfl ?_);(try (refine gate_guard (by rfl) ?_;dsimp only));refine zbx (N := 1) (cs := #[.int .i64 a0_0,.int .i64 a0_1,.string a0_2]) (t := 185) ?_;intro gb1310 hg w8 hbox hb;have BK1310 := am_ (hbox);have GW1310 := zw_ HB hg;have GE1310 := zw_ HB hg;replace HB := zs_ HB hb;clear hb hbox hg;obtain ⟨hcz9_0,hcz9_1,hcz9_2,hfz9_0,hfz9_1,hfz9_2⟩ := zc3 BK1310) | ((with_reducible refine gate_callee (f := 69) rfl ?_);refine zgl (some 5) Tryd.func69 #[.int .i64 a0_0,.int .i64 0,.int .i64 6] ?_;(with_reducible refine (spec_l01In.calls a0_0 0 6 true _ A2.out).mono ?_);rintro e w' ⟨rfl,⟨nd,rfl⟩⟩;refine ⟨_,rfl,?_⟩) | (go_at_call 69;(with_reducible refine (spec_l01In.calls a0_1 0 1000000000 false _ A4.out).mono ?_);rintro e w' ⟨rfl,⟨nd,rfl⟩⟩))
   go_ret
   exact ⟨zt_,zl_ HB⟩
 ·replace c3 := Bool.eq_false_iff.mpr c3
  subst c3
  have H1 : (some false) = some r := by rw [if_neg (show ¬ (false = true) by decide)] at H;exact H
  clear H
  have H := H1
  clear H1
  obtain rfl := Option.some.inj H
  go_enter Tryd.func172,Tryd.ntmps172
  go_wp2_with (first | ((with_reducible refine gate_dst (N := 1) rfl ?_);(try (refine gate_guard (by rfl) ?_;dsimp only));refine zbx (N := 1) (cs := #[.int .i64 a0_0,.int .i64 a0_1,.string a0_2]) (t := 185) ?_;intro gb1310 hg w10 hbox hb;have BK1310 := am_ (hbox);have GW1310 := zw_ HB hg;have GE1310 := zw_ HB hg;replace HB := zs_ HB hb;clear hb hbox hg;obtain ⟨hcz11_0,hcz11_1,hcz11_2,hfz11_0,hfz11_1,hfz11_2⟩ := zc3 BK1310) | ((with_reducible refine gate_callee (f := 69) rfl ?_);refine zgl (some 5) Tryd.func69 #[.int .i64 a0_0,.int .i64 0,.int .i64 6] ?_;(with_reducible refine (spec_l01In.calls a0_0 0 6 false _ A2.out).mono ?_);rintro e w' ⟨rfl,⟨nd,rfl⟩⟩;refine ⟨_,rfl,?_⟩))
  go_ret
  exact ⟨zt_,zl_ HB⟩
end Go.Proofs.YtlifdodphkimpaaDoor.C
end

section
namespace Go.Proofs.YtlifdodphkimpaaDoor.C
open Go.RowKit Go.Proofs.YtlifdodphkimpaaDoorW.PrintWords Go.Proofs.YtlifdodphkimpaaDoorW.PrintLast Go.Proofs.YtlifdodphkimpaaDoorW.PrintMore
attribute [local go_sem] max2_int min2_int max_two min_two max_three min_three max_four min_four
attribute [local go_sem high] eqA85
def spec_l02BatchOK.T8 : Bool × List (List Nat × List Nat) := (true,[([],[]),([0],[0]),([],[]),([1,2],[1,2]),([3],[3]),([4],[4]),([5],[5]),([6,5],[6]),([7],[7]),([8,7],[7,8]),([9,7,7],[7,9]),([10],[10]),([11,10],[10,11]),([10],[10]),([13,10],[10,13]),([12,14,10],[10,12,14]),([15,10],[10,15]),([16,10],[10,16]),([10],[10]),([18,10],[10,18]),([10],[10]),([19,20,10],[10,19,20]),([21,10],[10,21]),([22,10],[10,22]),([17,23,10],[10,17,23]),([10,24,7],[7,10,24]),([7,25],[7,25])])
def spec_l02BatchOK.B8 : List Nat := [0,1,0,7,15,31,63,127,255,511,1023,2047,4095,2047,10239,32767,65535,131071,2047,264191,2047,1837055,3934207,8128511,16777215,33554431,67108863]
theorem spec_l02BatchOK.tab8 : rtab .any (opsOf Tryd.f171 8) = spec_l02BatchOK.T8 := by kernel_rfl
theorem spec_l02BatchOK.bits8 : waitsOk spec_l02BatchOK.T8.2 spec_l02BatchOK.B8 = true := by kernel_rfl
set_option maxHeartbeats 8000000 in
set_option maxRecDepth 100000 in
theorem spec_l02BatchOK.calls (k : Nat) (a0_0 : Bool) (a0_1 : Int) (a0_2 : Int) (a0_3 : Int) (a0_4 : Int) (a0_5 : ByteArray) (A0_6 : Option Addr) (c0_6 : Nat) (l0_6 : List (S185)) (r : Bool) (w : World) (hr0_6 : Kd.C k185 w A0_6 l0_6.length l0_6) (hc0_6 : l0_6.length ≤ c0_6) (h : spec_l02BatchOK.f k a0_0 a0_1 a0_2 a0_3 a0_4 a0_5 l0_6 = some r) :
  Calls Tryd.prog 171 #[.agg #[.bool a0_0,.int .i64 a0_1,.int .i64 a0_2,.int .i64 a0_3,.int .i64 a0_4,.string a0_5,.slice A0_6 l0_6.length c0_6]] w fun e w' => e = .returned (.bool r) ∧ Below w.heap.size w w' := by
 have hu165 := Tryd.underlying165
 have hu85 := Tryd.underlying85
 have hu185 := Tryd.underlying185
 have HR0_6 := am_ hr0_6
 have HC0_6 := am_ hc0_6
 clear hr0_6 hc0_6
 have HB := am_ (Below.refl w.heap.size w)
 have H : (if a0_0 = true then (if (a0_1 == 0 && (a0_2 == 0 && (a0_3 == 0 && (a0_4 == 0 && (a0_5.toList == ([] : List UInt8)))))) = true then (some ((l0_6.length : Int) == 0)) else (some false)) else ((spec_RequestOK.f k a0_1 a0_2 a0_3 a0_4 a0_5).bind fun t1314 => (if t1314 = true then (spec_l02BatchOK.j0 k (decide ((l0_6.length : Int) > 7)) a0_0 a0_1 a0_2 a0_3 a0_4 a0_5 l0_6) else (spec_l02BatchOK.j0 k true a0_0 a0_1 a0_2 a0_3 a0_4 a0_5 l0_6)))) = some r := h
 clear h
 by_cases c2 : a0_0 = true
 ·subst c2
  have H1 : (if (a0_1 == 0 && (a0_2 == 0 && (a0_3 == 0 && (a0_4 == 0 && (a0_5.toList == ([] : List UInt8)))))) = true then (some ((l0_6.length : Int) == 0)) else (some false)) = some r := by rw [if_pos rfl] at H;exact H
  clear H
  have H := H1
  clear H1
  by_cases c3 : (a0_1 == 0 && (a0_2 == 0 && (a0_3 == 0 && (a0_4 == 0 && (a0_5.toList == ([] : List UInt8)))))) = true
  ·rw [if_pos c3] at H
   have c3k := am_ c3
   have c3b0 : (a0_1 == 0 && (a0_2 == 0 && (a0_3 == 0 && (a0_4 == 0 && (a0_5.toList == ([] : List UInt8)))))) = true := c3k.out
   (try (have c3b1 : decide (a0_1 = 0 && (a0_2 == 0 && (a0_3 == 0 && (a0_4 == 0 && (a0_5.toList == ([] : List UInt8)))))) = true := by simpa using c3k.out))
   (try (have c3b2 : (a0_1 == 0 && (a0_2 == 0 && (a0_3 == 0 && (a0_4 == 0 && (a0_5.toList == ([] : List UInt8)))))) = true := by simpa using c3k.out))
   (try have c3e0 := c3b0;simp only [e3_,e4_] at c3e0)
   (try have c3e1 := c3b1;simp only [e3_,e4_] at c3e1)
   (try have c3e2 := c3b2;simp only [e3_,e4_] at c3e2)
   (try simp only [*,Bool.not_true,Bool.not_false,Bool.false_or,Bool.true_or,Bool.or_false,Bool.or_true,Bool.true_and,Bool.and_true,Bool.false_and,Bool.and_false] at c3)
   have c3bs := c3
   clear c3k
   clear c3
   obtain rfl := Option.some.inj H
   go_enter Tryd.func171,Tryd.ntmps171
   go_wp2_with (first | ((with_reducible refine gate_dst (N := 1) rfl ?_);(try (refine gate_guard (by rfl) ?_;dsimp only));refine zbx (N := 1) (cs := #[.bool true,.int .i64 a0_1,.int .i64 a0_2,.int .i64 a0_3,.int .i64 a0_4,.string a0_5,.slice A0_6 l0_6.length c0_6]) (t := 165) ?_;intro gb1313 hg w4 hbox hb;have BK1313 := am_ (hbox);have GW1313 := zw_ HB hg;have GE1313 := zw_ HB hg;replace HB := zs_ HB hb;clear hb hbox hg;obtain ⟨hcz5_0,hcz5_1,hcz5_2,hcz5_3,hcz5_4,hcz5_5,hcz5_6,hfz5_0,hfz5_1,hfz5_2,hfz5_3,hfz5_4,hfz5_5,hfz5_6⟩ := zc7 BK1313))
   go_ret
   exact ⟨zt_,zl_ HB⟩
  ·rw [if_neg c3] at H
   have c3k := am_ c3
   have c3b0 : (a0_1 == 0 && (a0_2 == 0 && (a0_3 == 0 && (a0_4 == 0 && (a0_5.toList == ([] : List UInt8)))))) = false := by simpa using c3k.out
   (try (have c3b1 : decide (a0_1 = 0 && (a0_2 == 0 && (a0_3 == 0 && (a0_4 == 0 && (a0_5.toList == ([] : List UInt8)))))) = false := by simpa using c3k.out))
   (try (have c3b2 : (a0_1 == 0 && (a0_2 == 0 && (a0_3 == 0 && (a0_4 == 0 && (a0_5.toList == ([] : List UInt8)))))) = false := by simpa using c3k.out))
   (try (have c3b3 : ¬ (a0_1 = 0 && (a0_2 == 0 && (a0_3 == 0 && (a0_4 == 0 && (a0_5.toList == ([] : List UInt8)))))) := by simpa using c3k.out))
   (try have c3e0 := c3b0;simp only [e3_,e4_] at c3e0)
   (try have c3e1 := c3b1;simp only [e3_,e4_] at c3e1)
   (try have c3e2 := c3b2;simp only [e3_,e4_] at c3e2)
   (try have c3e3 := c3b3;simp only [e3_,e4_] at c3e3)
   (try simp only [*,Bool.not_true,Bool.not_false,Bool.false_or,Bool.true_or,Bool.or_false,Bool.or_true,Bool.true_and,Bool.and_true,Bool.false_and,Bool.and_false] at c3)
   have c3bs := c3
   clear c3k
   clear c3
   obtain rfl := Option.some.inj H
   go_enter Tryd.func171,Tryd.ntmps171
   go_wp2_with (first | ((with_reducible refine gate_dst (N := 1) rfl ?_);(try (refine gate_guard (by rfl) ?_;dsimp only));refine zbx (N := 1) (cs := #[.bool true,.int .i64 a0_1,.int .i64 a0_2,.int .i64 a0_3,.int .i64 a0_4,.string a0_5,.slice A0_6 l0_6.length c0_6]) (t := 165) ?_;intro gb1313 hg w6 hbox hb;have BK1313 := am_ (hbox);have GW1313 := zw_ HB hg;have GE1313 := zw_ HB hg;replace HB := zs_ HB hb;clear hb hbox hg;obtain ⟨hcz7_0,hcz7_1,hcz7_2,hcz7_3,hcz7_4,hcz7_5,hcz7_6,hfz7_0,hfz7_1,hfz7_2,hfz7_3,hfz7_4,hfz7_5,hfz7_6⟩ := zc7 BK1313))
   go_ret
   exact ⟨zt_,zl_ HB⟩
 ·replace c2 := Bool.eq_false_iff.mpr c2
  subst c2
  have H1 : ((spec_RequestOK.f k a0_1 a0_2 a0_3 a0_4 a0_5).bind fun t1314 => (if t1314 = true then (spec_l02BatchOK.j0 k (decide ((l0_6.length : Int) > 7)) false a0_1 a0_2 a0_3 a0_4 a0_5 l0_6) else (spec_l02BatchOK.j0 k true false a0_1 a0_2 a0_3 a0_4 a0_5 l0_6))) = some r := by rw [if_neg (show ¬ (false = true) by decide)] at H;exact H
  clear H
  have H := H1
  clear H1
  have HC8 := am_ H
  clear H
  go_enter Tryd.func171,Tryd.ntmps171
  go_upto_region 3 with (first | ((with_reducible refine gate_dst (N := 1) rfl ?_);(try (refine gate_guard (by rfl) ?_;dsimp only));refine zbx (N := 1) (cs := #[.bool false,.int .i64 a0_1,.int .i64 a0_2,.int .i64 a0_3,.int .i64 a0_4,.string a0_5,.slice A0_6 l0_6.length c0_6]) (t := 165) ?_;intro gb1313 hg w9 hbox hb;have BK1313 := am_ (hbox);have GW1313 := zw_ HB hg;have GE1313 := zw_ HB hg;replace HB := zs_ HB hb;clear hb hbox hg;obtain ⟨hcz10_0,hcz10_1,hcz10_2,hcz10_3,hcz10_4,hcz10_5,hcz10_6,hfz10_0,hfz10_1,hfz10_2,hfz10_3,hfz10_4,hfz10_5,hfz10_6⟩ := zc7 BK1313))
  (try simp only [Act.put,p1_,p2_,p3_])
  go_cut [25] (fun v25 wc => ∃ (kq : Nat) (x25_7 : Bool),v25 = .bool x25_7 ∧ Aside0 (spec_l02BatchOK.j0 kq x25_7 false a0_1 a0_2 a0_3 a0_4 a0_5 l0_6 = some r) ∧ Aside0 (kq ≤ k) ∧ Aside0 (wc.heap[gb1313]? = some (.cells #[.bool false,.int .i64 a0_1,.int .i64 a0_2,.int .i64 a0_3,.int .i64 a0_4,.string a0_5,(.slice A0_6 l0_6.length c0_6)] 165 (0,0))) ∧ Aside0 (Below w.heap.size w wc))
  case first =>
   have H := HC8.out
   clear HC8
   replace H := Option.bind_eq_some_iff.mp H
   obtain ⟨t1314,A110,H⟩ := H
   try dsimp only at H
   have A11 := am_ A110
   clear A110
   by_cases c12 : t1314 = true
   ·subst c12
    have H1 : (spec_l02BatchOK.j0 k (decide ((l0_6.length : Int) > 7)) false a0_1 a0_2 a0_3 a0_4 a0_5 l0_6) = some r := by rw [if_pos rfl] at H;exact H
    clear H
    have H := H1
    clear H1
    have H' := am_ H
    clear H
    obtain ⟨hcz13_0,hcz13_1,hcz13_2,hcz13_3,hcz13_4,hcz13_5,hcz13_6,hfz13_0,hfz13_1,hfz13_2,hfz13_3,hfz13_4,hfz13_5,hfz13_6⟩ := zc7 BK1313
    go_wp2_with (first | ((with_reducible refine gate_callee (f := 96) rfl ?_);refine zgl (some 18) Tryd.func96 #[.agg #[.int .i64 a0_1,.int .i64 a0_2,.int .i64 a0_3,.int .i64 a0_4,.string a0_5]] ?_;(with_reducible refine (spec_RequestOK.calls k a0_1 a0_2 a0_3 a0_4 a0_5 true _ A11.out).mono ?_);rintro e w14 ⟨rfl,hb⟩;refine ⟨_,rfl,?_⟩;replace BK1313 := zb BK1313 hb;replace HB := zs_ HB hb;(try clear hb);(try clear hb2);(try clear hk);(try clear hi);obtain ⟨hcz15_0,hcz15_1,hcz15_2,hcz15_3,hcz15_4,hcz15_5,hcz15_6,hfz15_0,hfz15_1,hfz15_2,hfz15_3,hfz15_4,hfz15_5,hfz15_6⟩ := zc7 BK1313))
    go_meet
    case rel => exact ⟨_,(decide ((l0_6.length : Int) > 7)),(by first | rfl | (simp;done) | (simp [*];done)),H',⟨by first | omega | exact Nat.le_refl _⟩,⟨by (with_reducible repeat (first | apply k1_ | apply k2_ | apply k3_));exact BK1313.out⟩,⟨zl_ HB⟩⟩
   ·replace c12 := Bool.eq_false_iff.mpr c12
    subst c12
    have H1 : (spec_l02BatchOK.j0 k true false a0_1 a0_2 a0_3 a0_4 a0_5 l0_6) = some r := by rw [if_neg (show ¬ (false = true) by decide)] at H;exact H
    clear H
    have H := H1
    clear H1
    have H' := am_ H
    clear H
    obtain ⟨hcz16_0,hcz16_1,hcz16_2,hcz16_3,hcz16_4,hcz16_5,hcz16_6,hfz16_0,hfz16_1,hfz16_2,hfz16_3,hfz16_4,hfz16_5,hfz16_6⟩ := zc7 BK1313
    go_wp2_with (first | ((with_reducible refine gate_callee (f := 96) rfl ?_);refine zgl (some 18) Tryd.func96 #[.agg #[.int .i64 a0_1,.int .i64 a0_2,.int .i64 a0_3,.int .i64 a0_4,.string a0_5]] ?_;(with_reducible refine (spec_RequestOK.calls k a0_1 a0_2 a0_3 a0_4 a0_5 false _ A11.out).mono ?_);rintro e w17 ⟨rfl,hb⟩;refine ⟨_,rfl,?_⟩;replace BK1313 := zb BK1313 hb;replace HB := zs_ HB hb;(try clear hb);(try clear hb2);(try clear hk);(try clear hi)))
    go_meet
    case rel => exact ⟨_,(true),(by first | rfl | (simp;done) | (simp [*];done)),H',⟨by first | omega | exact Nat.le_refl _⟩,⟨by (with_reducible repeat (first | apply k1_ | apply k2_ | apply k3_));exact BK1313.out⟩,⟨zl_ HB⟩⟩
  case rest =>
   clear HC8
   try clear c1
   try clear c2
   try clear p2
   try clear c3
   try clear c3b0
   try clear c3b1
   try clear c3b2
   try clear c9
   try clear c12
   try clear c17
   try clear hcz10_0
   try clear hcz10_1
   try clear hcz10_2
   try clear hcz10_3
   try clear hcz10_4
   try clear hcz10_5
   try clear hcz10_6
   try clear hcz13_0
   try clear hcz13_1
   try clear hcz13_2
   try clear hcz13_3
   try clear hcz13_4
   try clear hcz13_5
   try clear hcz13_6
   try clear hcz15_0
   try clear hcz15_1
   try clear hcz15_2
   try clear hcz15_3
   try clear hcz15_4
   try clear hcz15_5
   try clear hcz15_6
   try clear hcz16_0
   try clear hcz16_1
   try clear hcz16_2
   try clear hcz16_3
   try clear hcz16_4
   try clear hcz16_5
   try clear hcz16_6
   try clear hcz5_0
   try clear hcz5_1
   try clear hcz5_2
   try clear hcz5_3
   try clear hcz5_4
   try clear hcz5_5
   try clear hcz5_6
   try clear hcz7_0
   try clear hcz7_1
   try clear hcz7_2
   try clear hcz7_3
   try clear hcz7_4
   try clear hcz7_5
   try clear hcz7_6
   try clear hfz10_0
   try clear hfz10_1
   try clear hfz10_2
   try clear hfz10_3
   try clear hfz10_4
   try clear hfz10_5
   try clear hfz10_6
   try clear hfz13_0
   try clear hfz13_1
   try clear hfz13_2
   try clear hfz13_3
   try clear hfz13_4
   try clear hfz13_5
   try clear hfz13_6
   try clear hfz15_0
   try clear hfz15_1
   try clear hfz15_2
   try clear hfz15_3
   try clear hfz15_4
   try clear hfz15_5
   try clear hfz15_6
   try clear hfz16_0
   try clear hfz16_1
   try clear hfz16_2
   try clear hfz16_3
   try clear hfz16_4
   try clear hfz16_5
   try clear hfz16_6
   try clear hfz5_0
   try clear hfz5_1
   try clear hfz5_2
   try clear hfz5_3
   try clear hfz5_4
   try clear hfz5_5
   try clear hfz5_6
   try clear hfz7_0
   try clear hfz7_1
   try clear hfz7_2
   try clear hfz7_3
   try clear hfz7_4
   try clear hfz7_5
   try clear hfz7_6
   obtain ⟨kq,x25_7,rfl,HA,HJ7,BK1313,HB⟩ := hcut
   cases kq with
   | zero => exact absurd HA.out (by simp [spec_l02BatchOK.j0])
   | succ kj7 =>
    have H := HA.out
    clear HA
    simp only [spec_l02BatchOK.j0] at H
    by_cases c18 : x25_7 = true
    ·subst c18
     have H1 : (some false) = some r := by rw [if_pos rfl] at H;exact H
     clear H
     have H := H1
     clear H1
     obtain rfl := Option.some.inj H
     go_wp2
     go_ret
     exact ⟨zt_,zl_ HB⟩
    ·replace c18 := Bool.eq_false_iff.mpr c18
     subst c18
     have H1 : (spec_l02BatchOK.l0 kj7 0 false a0_1 a0_2 a0_3 a0_4 a0_5 l0_6) = some r := by rw [if_neg (show ¬ (false = true) by decide)] at H;exact H
     clear H
     have H := H1
     clear H1
     have H' := am_ H
     clear H
     go_wp2
     go_loopg [3] kj7 (fun kq v3 w' => ∃ (x3_2 : Int),v3 = .int .i64 x3_2 ∧ Aside0 (spec_l02BatchOK.l0 kq x3_2 false a0_1 a0_2 a0_3 a0_4 a0_5 l0_6 = some r) ∧ Aside0 (kq ≤ kj7) ∧ Aside0 (w'.heap[gb1313]? = some (.cells #[.bool false,.int .i64 a0_1,.int .i64 a0_2,.int .i64 a0_3,.int .i64 a0_4,.string a0_5,(.slice A0_6 l0_6.length c0_6)] 165 (0,0))) ∧ Aside0 (Below w.heap.size w w'))
     case atStart => exact ⟨(0),(by first | rfl | (simp;done) | (simp [*];done)),H',⟨Nat.le_refl _⟩,⟨by (with_reducible repeat (first | apply k1_ | apply k2_ | apply k3_));exact BK1313.out⟩,⟨zl_ HB⟩⟩
     case round =>
      clear H'
      try clear c1
      try clear c2
      try clear p2
      try clear c3
      try clear c3b0
      try clear c3b1
      try clear c3b2
      try clear c9
      try clear c12
      try clear c17
      try clear c18
      try clear hcz10_0
      try clear hcz10_1
      try clear hcz10_2
      try clear hcz10_3
      try clear hcz10_4
      try clear hcz10_5
      try clear hcz10_6
      try clear hcz13_0
      try clear hcz13_1
      try clear hcz13_2
      try clear hcz13_3
      try clear hcz13_4
      try clear hcz13_5
      try clear hcz13_6
      try clear hcz15_0
      try clear hcz15_1
      try clear hcz15_2
      try clear hcz15_3
      try clear hcz15_4
      try clear hcz15_5
      try clear hcz15_6
      try clear hcz16_0
      try clear hcz16_1
      try clear hcz16_2
      try clear hcz16_3
      try clear hcz16_4
      try clear hcz16_5
      try clear hcz16_6
      try clear hcz5_0
      try clear hcz5_1
      try clear hcz5_2
      try clear hcz5_3
      try clear hcz5_4
      try clear hcz5_5
      try clear hcz5_6
      try clear hcz7_0
      try clear hcz7_1
      try clear hcz7_2
      try clear hcz7_3
      try clear hcz7_4
      try clear hcz7_5
      try clear hcz7_6
      try clear hfz10_0
      try clear hfz10_1
      try clear hfz10_2
      try clear hfz10_3
      try clear hfz10_4
      try clear hfz10_5
      try clear hfz10_6
      try clear hfz13_0
      try clear hfz13_1
      try clear hfz13_2
      try clear hfz13_3
      try clear hfz13_4
      try clear hfz13_5
      try clear hfz13_6
      try clear hfz15_0
      try clear hfz15_1
      try clear hfz15_2
      try clear hfz15_3
      try clear hfz15_4
      try clear hfz15_5
      try clear hfz15_6
      try clear hfz16_0
      try clear hfz16_1
      try clear hfz16_2
      try clear hfz16_3
      try clear hfz16_4
      try clear hfz16_5
      try clear hfz16_6
      try clear hfz5_0
      try clear hfz5_1
      try clear hfz5_2
      try clear hfz5_3
      try clear hfz5_4
      try clear hfz5_5
      try clear hfz5_6
      try clear hfz7_0
      try clear hfz7_1
      try clear hfz7_2
      try clear hfz7_3
      try clear hfz7_4
      try clear hfz7_5
      try clear hfz7_6
      try clear p2
      obtain ⟨x3_2,rfl,HA,HK2,BK1313,HB⟩ := hrel
      cases gk with
      | zero => exact absurd HA.out (by simp [spec_l02BatchOK.l0])
      | succ k2 =>
       have H := HA.out
       clear HA
       simp only [spec_l02BatchOK.l0] at H
       by_cases c19 : x3_2 < (l0_6.length : Int)
       ·rw [if_pos c19] at H
        have c19b0 : decide (x3_2 < (l0_6.length : Int)) = true := decide_eq_true c19
        clear c19
        by_cases c20 : 0 ≤ x3_2
        ·rw [if_pos c20] at H
         have c20b0 : decide (0 ≤ x3_2) = true := decide_eq_true c20
         clear c20
         replace H := Option.bind_eq_some_iff.mp H
         obtain ⟨t1316,A210,H⟩ := H
         try dsimp only at H
         have A21 := am_ A210
         clear A210
         by_cases c22 : t1316 = true
         ·subst c22
          have H1 : (if x3_2 > 0 then (if 0 ≤ (wrap64 (x3_2 - 1)) then (if (wrap64 (x3_2 - 1)) < (l0_6.length : Int) then (if ((rd_T185 l0_6 (wrap64 (x3_2 - 1))).f0) ≥ ((rd_T185 l0_6 x3_2).f0) then (some false) else (spec_l02BatchOK.l0 k2 (wrap64 (x3_2 + 1)) false a0_1 a0_2 a0_3 a0_4 a0_5 l0_6)) else (none)) else (none)) else (spec_l02BatchOK.l0 k2 (wrap64 (x3_2 + 1)) false a0_1 a0_2 a0_3 a0_4 a0_5 l0_6)) = some r := by rw [if_pos rfl] at H;exact H
          clear H
          have H := H1
          clear H1
          by_cases c23 : x3_2 > 0
          ·rw [if_pos c23] at H
           have c23b0 : decide (0 < x3_2) = true := decide_eq_true c23
           clear c23
           obtain ⟨ji24,hji24⟩ : ∃ j_ : Int,(wrap64 (x3_2 - 1)) = j_ := ⟨_,rfl⟩
           replace H : (if 0 ≤ (ji24) then (if (ji24) < (l0_6.length : Int) then (if ((rd_T185 l0_6 (ji24)).f0) ≥ ((rd_T185 l0_6 x3_2).f0) then (some false) else (spec_l02BatchOK.l0 k2 (wrap64 (x3_2 + 1)) false a0_1 a0_2 a0_3 a0_4 a0_5 l0_6)) else (none)) else (none)) = some r := by first | (rw [hji24] at H;exact H) | (simp only [hji24] at H ⊢;exact H)
           (try rw [hji24] at A21)
           have hji24w : (IntKind.i64.wrap (x3_2 - 1)) = ji24 := (i64_w _).trans hji24
           by_cases c25 : 0 ≤ (ji24)
           ·rw [if_pos c25] at H
            have c25b0 : decide (0 ≤ (ji24)) = true := decide_eq_true c25
            clear c25
            by_cases c26 : (ji24) < (l0_6.length : Int)
            ·rw [if_pos c26] at H
             have c26b0 : decide ((ji24) < (l0_6.length : Int)) = true := decide_eq_true c26
             clear c26
             by_cases c27 : ((rd_T185 l0_6 (ji24)).f0) ≥ ((rd_T185 l0_6 x3_2).f0)
             ·rw [if_pos c27] at H
              have c27b0 : decide (((rd_T185 l0_6 x3_2).f0) ≤ ((rd_T185 l0_6 (ji24)).f0)) = true := decide_eq_true c27
              clear c27
              obtain rfl := Option.some.inj H
              obtain ⟨hcz28_0,hcz28_1,hcz28_2,hcz28_3,hcz28_4,hcz28_5,hcz28_6,hfz28_0,hfz28_1,hfz28_2,hfz28_3,hfz28_4,hfz28_5,hfz28_6⟩ := zc7 BK1313
              try go_wp2
              replace BK1313 := am_ (blk_drew BK1313.out)
              replace HB := am_ (below_drew1 HB.out)
              have p1315 : 0 ≤ (x3_2 : Int) := zo_
              have q1315 : x3_2 < (l0_6.length : Int) := zo_
              obtain ⟨ad1315,e1315,hx1315_0,hx1315_1,hx1315_2⟩ := at_T185 HR0_6.out x3_2 p1315 q1315
              have hw1315_2 := hx1315_2
              have hw1315_1 := hx1315_1
              have hw1315_0 := hx1315_0
              cases e1315
              replace hx1315_0 := zx_ HB hx1315_0
              replace hx1315_1 := zx_ HB hx1315_1
              replace hx1315_2 := zx_ HB hx1315_2
              replace p1315 := eq_true p1315
              replace q1315 := eq_true q1315
              have p1317 : 0 ≤ ((ji24) : Int) := zo_
              have q1317 : (ji24) < (l0_6.length : Int) := zo_
              obtain ⟨ad1317,e1317,hx1317_0,hx1317_1,hx1317_2⟩ := at_T185 HR0_6.out (ji24) p1317 q1317
              have hw1317_2 := hx1317_2
              have hw1317_1 := hx1317_1
              have hw1317_0 := hx1317_0
              obtain rfl : ad1315 = ad1317 := (by injection e1317)
              replace hx1317_0 := zx_ HB hx1317_0
              replace hx1317_1 := zx_ HB hx1317_1
              replace hx1317_2 := zx_ HB hx1317_2
              replace p1317 := eq_true p1317
              replace q1317 := eq_true q1317
              have p1318 : 0 ≤ (x3_2 : Int) := zo_
              have q1318 : x3_2 < (l0_6.length : Int) := zo_
              obtain ⟨ad1318,e1318,hx1318_0,hx1318_1,hx1318_2⟩ := at_T185 HR0_6.out x3_2 p1318 q1318
              have hw1318_2 := hx1318_2
              have hw1318_1 := hx1318_1
              have hw1318_0 := hx1318_0
              obtain rfl : ad1315 = ad1318 := (by injection e1318)
              replace hx1318_0 := zx_ HB hx1318_0
              replace hx1318_1 := zx_ HB hx1318_1
              replace hx1318_2 := zx_ HB hx1318_2
              replace p1318 := eq_true p1318
              replace q1318 := eq_true q1318
              refine start_ (n := 27) (S := fun w' => w'.cell? ⟨gb1313,0,none⟩ = some (.bool false) ∧ w'.cell? ⟨gb1313,1,none⟩ = some (.int .i64 a0_1) ∧ w'.cell? ⟨gb1313,2,none⟩ = some (.int .i64 a0_2) ∧ w'.cell? ⟨gb1313,3,none⟩ = some (.int .i64 a0_3) ∧ w'.cell? ⟨gb1313,4,none⟩ = some (.int .i64 a0_4) ∧ w'.cell? ⟨gb1313,5,none⟩ = some (.string a0_5) ∧ w'.cell? ⟨gb1313,6,none⟩ = some (.slice (some ad1315) l0_6.length c0_6) ∧ w'.cell? (ad1315.add ((x3_2).toNat * 3)) = some (.int .i64 ((rd_T185 l0_6 x3_2).f0)) ∧ w'.cell? ⟨(ad1315.add ((x3_2).toNat * 3)).block,(ad1315.add ((x3_2).toNat * 3)).off + 1,none⟩ = some (.int .i64 ((rd_T185 l0_6 x3_2).f1)) ∧ w'.cell? ⟨(ad1315.add ((x3_2).toNat * 3)).block,(ad1315.add ((x3_2).toNat * 3)).off + 2,none⟩ = some (.string ((rd_T185 l0_6 x3_2).f2)) ∧ w'.cell? (ad1315.add (((ji24)).toNat * 3)) = some (.int .i64 ((rd_T185 l0_6 (ji24)).f0)) ∧ w'.cell? ⟨(ad1315.add (((ji24)).toNat * 3)).block,(ad1315.add (((ji24)).toNat * 3)).off + 1,none⟩ = some (.int .i64 ((rd_T185 l0_6 (ji24)).f1)) ∧ w'.cell? ⟨(ad1315.add (((ji24)).toNat * 3)).block,(ad1315.add (((ji24)).toNat * 3)).off + 2,none⟩ = some (.string ((rd_T185 l0_6 (ji24)).f2)) ∧ w'.cell? (ad1315.add ((x3_2).toNat * 3)) = some (.int .i64 ((rd_T185 l0_6 x3_2).f0)) ∧ w'.cell? ⟨(ad1315.add ((x3_2).toNat * 3)).block,(ad1315.add ((x3_2).toNat * 3)).off + 1,none⟩ = some (.int .i64 ((rd_T185 l0_6 x3_2).f1)) ∧ w'.cell? ⟨(ad1315.add ((x3_2).toNat * 3)).block,(ad1315.add ((x3_2).toNat * 3)).off + 2,none⟩ = some (.string ((rd_T185 l0_6 x3_2).f2))) (ds := []) #[false,false,false,false,false,false,false,false,false,false,false,false,false,false,false,false,false,false,false,false,false,false,false,false,false,false,false] (by kernel_rfl) rfl rfl ⟨(blk_cell BK1313.out 0).trans rfl,(blk_cell BK1313.out 1).trans rfl,(blk_cell BK1313.out 2).trans rfl,(blk_cell BK1313.out 3).trans rfl,(blk_cell BK1313.out 4).trans rfl,(blk_cell BK1313.out 5).trans rfl,(blk_cell BK1313.out 6).trans rfl,(zx_ HB hw1315_0),(zx_ HB hw1315_1),(zx_ HB hw1315_2),(zx_ HB hw1317_0),(zx_ HB hw1317_1),(zx_ HB hw1317_2),(zx_ HB hw1318_0),(zx_ HB hw1318_1),(zx_ HB hw1318_2)⟩ (fun hHeld => ?_);refine with_tabW spec_l02BatchOK.tab8 spec_l02BatchOK.bits8 (fun HT_ HW_ => ?_)
              generalize wr.drew = w29 at BK1313 HB hx1315_0 hx1315_1 hx1315_2 hx1317_0 hx1317_1 hx1317_2 hx1318_0 hx1318_1 hx1318_2 hHeld ⊢
              refine zpu 0 (N := some 33) HT_ ?_
              refine zpu 2 (N := some 35) HT_ ?_
              refine ztk 1 (N := some 34) HT_ HW_ hHeld ?_
              refine zpu 3 (N := some 36) HT_ ?_
              refine ztk 4 (N := some 37) HT_ HW_ hHeld ?_
              refine zon 5 (N := some 38) HT_ (fun K hK => ?_)
              refine zgo Tryd.func172 #[.agg #[.int .i64 ((rd_T185 l0_6 x3_2).f0),.int .i64 ((rd_T185 l0_6 x3_2).f1),.string ((rd_T185 l0_6 x3_2).f2)]] ?_
              with_reducible refine (spec_l02Reading.calls ((rd_T185 l0_6 x3_2).f0) ((rd_T185 l0_6 x3_2).f1) ((rd_T185 l0_6 x3_2).f2) true _ A21.out).mono ?_
              rintro e w30 ⟨rfl,hb⟩
              refine ⟨_,rfl,?_⟩
              replace BK1313 := zb BK1313 hb
              replace HB := zs_ HB hb
              (try clear hb)
              (try clear hb2)
              (try clear hk)
              (try clear hi)
              refine hK.out _ _ ⟨(blk_cell BK1313.out 0).trans rfl,(blk_cell BK1313.out 1).trans rfl,(blk_cell BK1313.out 2).trans rfl,(blk_cell BK1313.out 3).trans rfl,(blk_cell BK1313.out 4).trans rfl,(blk_cell BK1313.out 5).trans rfl,(blk_cell BK1313.out 6).trans rfl,(zx_ HB hw1315_0),(zx_ HB hw1315_1),(zx_ HB hw1315_2),(zx_ HB hw1317_0),(zx_ HB hw1317_1),(zx_ HB hw1317_2),(zx_ HB hw1318_0),(zx_ HB hw1318_1),(zx_ HB hw1318_2)⟩ (fun hHeld => ?_)
              clear hK K
              refine norm_ (a' := ?_) ?_ ?_
              rotate_left
              ·show Act.put _ (some 38) _ = _
               simp only [Act.put,p1_,p2_,p3_,i64_w,i32_w]
               rfl
              refine zpu 6 (N := some 39) HT_ ?_
              refine zpu 7 (N := some 40) HT_ ?_
              refine zpu 8 (N := some 41) HT_ ?_
              refine zpu 9 (N := some 42) HT_ ?_
              refine zpu 10 (N := some 43) HT_ ?_
              refine zpu 11 (N := some 44) HT_ ?_
              refine zpu 13 (N := some 46) HT_ ?_
              refine zpu 14 (N := some 47) HT_ ?_
              refine zpu 18 (N := some 51) HT_ ?_
              refine zpu 20 (N := some 53) HT_ ?_
              refine ztk 12 (N := some 45) HT_ HW_ hHeld ?_
              refine zpu 15 (N := some 48) HT_ ?_
              refine zpu 16 (N := some 49) HT_ ?_
              refine ztk 17 (N := some 50) HT_ HW_ hHeld ?_
              refine ztk 19 (N := some 52) HT_ HW_ hHeld ?_
              refine zpu 21 (N := some 54) HT_ ?_
              refine zpu 22 (N := some 55) HT_ ?_
              refine ztk 23 (N := some 56) HT_ HW_ hHeld ?_
              refine zpu 24 (N := some 57) HT_ ?_
              refine zpu 25 (N := some 58) HT_ ?_
              refine zpu 26 (N := some 59) HT_ ?_
              refine done_ (done_of HT_.out (by kernel_rfl)) ?_
              try go_wp2
              go_ret
              exact ⟨by first | rfl | (simp [e1_,e2_] <;> rfl) | (simp only [← hji24];first | rfl | (simp [e1_,e2_] <;> rfl)) | (simp [*,e1_,e2_] <;> rfl) | (simp [e3_,e4_];done) | (simp [*,e3_,e4_];done),zl_ HB⟩
             ·rw [if_neg c27] at H
              have c27b0 : decide (((rd_T185 l0_6 x3_2).f0) ≤ ((rd_T185 l0_6 (ji24)).f0)) = false := decide_eq_false c27
              clear c27
              have H' := am_ H
              clear H
              obtain ⟨hcz31_0,hcz31_1,hcz31_2,hcz31_3,hcz31_4,hcz31_5,hcz31_6,hfz31_0,hfz31_1,hfz31_2,hfz31_3,hfz31_4,hfz31_5,hfz31_6⟩ := zc7 BK1313
              try go_wp2
              replace BK1313 := am_ (blk_drew BK1313.out)
              replace HB := am_ (below_drew1 HB.out)
              have p1315 : 0 ≤ (x3_2 : Int) := zo_
              have q1315 : x3_2 < (l0_6.length : Int) := zo_
              obtain ⟨ad1315,e1315,hx1315_0,hx1315_1,hx1315_2⟩ := at_T185 HR0_6.out x3_2 p1315 q1315
              have hw1315_2 := hx1315_2
              have hw1315_1 := hx1315_1
              have hw1315_0 := hx1315_0
              cases e1315
              replace hx1315_0 := zx_ HB hx1315_0
              replace hx1315_1 := zx_ HB hx1315_1
              replace hx1315_2 := zx_ HB hx1315_2
              replace p1315 := eq_true p1315
              replace q1315 := eq_true q1315
              have p1317 : 0 ≤ ((ji24) : Int) := zo_
              have q1317 : (ji24) < (l0_6.length : Int) := zo_
              obtain ⟨ad1317,e1317,hx1317_0,hx1317_1,hx1317_2⟩ := at_T185 HR0_6.out (ji24) p1317 q1317
              have hw1317_2 := hx1317_2
              have hw1317_1 := hx1317_1
              have hw1317_0 := hx1317_0
              obtain rfl : ad1315 = ad1317 := (by injection e1317)
              replace hx1317_0 := zx_ HB hx1317_0
              replace hx1317_1 := zx_ HB hx1317_1
              replace hx1317_2 := zx_ HB hx1317_2
              replace p1317 := eq_true p1317
              replace q1317 := eq_true q1317
              have p1318 : 0 ≤ (x3_2 : Int) := zo_
              have q1318 : x3_2 < (l0_6.length : Int) := zo_
              obtain ⟨ad1318,e1318,hx1318_0,hx1318_1,hx1318_2⟩ := at_T185 HR0_6.out x3_2 p1318 q1318
              have hw1318_2 := hx1318_2
              have hw1318_1 := hx1318_1
              have hw1318_0 := hx1318_0
              obtain rfl : ad1315 = ad1318 := (by injection e1318)
              replace hx1318_0 := zx_ HB hx1318_0
              replace hx1318_1 := zx_ HB hx1318_1
              replace hx1318_2 := zx_ HB hx1318_2
              replace p1318 := eq_true p1318
              replace q1318 := eq_true q1318
              refine start_ (n := 27) (S := fun w' => w'.cell? ⟨gb1313,0,none⟩ = some (.bool false) ∧ w'.cell? ⟨gb1313,1,none⟩ = some (.int .i64 a0_1) ∧ w'.cell? ⟨gb1313,2,none⟩ = some (.int .i64 a0_2) ∧ w'.cell? ⟨gb1313,3,none⟩ = some (.int .i64 a0_3) ∧ w'.cell? ⟨gb1313,4,none⟩ = some (.int .i64 a0_4) ∧ w'.cell? ⟨gb1313,5,none⟩ = some (.string a0_5) ∧ w'.cell? ⟨gb1313,6,none⟩ = some (.slice (some ad1315) l0_6.length c0_6) ∧ w'.cell? (ad1315.add ((x3_2).toNat * 3)) = some (.int .i64 ((rd_T185 l0_6 x3_2).f0)) ∧ w'.cell? ⟨(ad1315.add ((x3_2).toNat * 3)).block,(ad1315.add ((x3_2).toNat * 3)).off + 1,none⟩ = some (.int .i64 ((rd_T185 l0_6 x3_2).f1)) ∧ w'.cell? ⟨(ad1315.add ((x3_2).toNat * 3)).block,(ad1315.add ((x3_2).toNat * 3)).off + 2,none⟩ = some (.string ((rd_T185 l0_6 x3_2).f2)) ∧ w'.cell? (ad1315.add (((ji24)).toNat * 3)) = some (.int .i64 ((rd_T185 l0_6 (ji24)).f0)) ∧ w'.cell? ⟨(ad1315.add (((ji24)).toNat * 3)).block,(ad1315.add (((ji24)).toNat * 3)).off + 1,none⟩ = some (.int .i64 ((rd_T185 l0_6 (ji24)).f1)) ∧ w'.cell? ⟨(ad1315.add (((ji24)).toNat * 3)).block,(ad1315.add (((ji24)).toNat * 3)).off + 2,none⟩ = some (.string ((rd_T185 l0_6 (ji24)).f2)) ∧ w'.cell? (ad1315.add ((x3_2).toNat * 3)) = some (.int .i64 ((rd_T185 l0_6 x3_2).f0)) ∧ w'.cell? ⟨(ad1315.add ((x3_2).toNat * 3)).block,(ad1315.add ((x3_2).toNat * 3)).off + 1,none⟩ = some (.int .i64 ((rd_T185 l0_6 x3_2).f1)) ∧ w'.cell? ⟨(ad1315.add ((x3_2).toNat * 3)).block,(ad1315.add ((x3_2).toNat * 3)).off + 2,none⟩ = some (.string ((rd_T185 l0_6 x3_2).f2))) (ds := []) #[false,false,false,false,false,false,false,false,false,false,false,false,false,false,false,false,false,false,false,false,false,false,false,false,false,false,false] (by kernel_rfl) rfl rfl ⟨(blk_cell BK1313.out 0).trans rfl,(blk_cell BK1313.out 1).trans rfl,(blk_cell BK1313.out 2).trans rfl,(blk_cell BK1313.out 3).trans rfl,(blk_cell BK1313.out 4).trans rfl,(blk_cell BK1313.out 5).trans rfl,(blk_cell BK1313.out 6).trans rfl,(zx_ HB hw1315_0),(zx_ HB hw1315_1),(zx_ HB hw1315_2),(zx_ HB hw1317_0),(zx_ HB hw1317_1),(zx_ HB hw1317_2),(zx_ HB hw1318_0),(zx_ HB hw1318_1),(zx_ HB hw1318_2)⟩ (fun hHeld => ?_);refine with_tabW spec_l02BatchOK.tab8 spec_l02BatchOK.bits8 (fun HT_ HW_ => ?_)
              generalize wr.drew = w32 at BK1313 HB hx1315_0 hx1315_1 hx1315_2 hx1317_0 hx1317_1 hx1317_2 hx1318_0 hx1318_1 hx1318_2 hHeld ⊢
              refine zpu 0 (N := some 33) HT_ ?_
              refine zpu 2 (N := some 35) HT_ ?_
              refine ztk 1 (N := some 34) HT_ HW_ hHeld ?_
              refine zpu 3 (N := some 36) HT_ ?_
              refine ztk 4 (N := some 37) HT_ HW_ hHeld ?_
              refine zon 5 (N := some 38) HT_ (fun K hK => ?_)
              refine zgo Tryd.func172 #[.agg #[.int .i64 ((rd_T185 l0_6 x3_2).f0),.int .i64 ((rd_T185 l0_6 x3_2).f1),.string ((rd_T185 l0_6 x3_2).f2)]] ?_
              with_reducible refine (spec_l02Reading.calls ((rd_T185 l0_6 x3_2).f0) ((rd_T185 l0_6 x3_2).f1) ((rd_T185 l0_6 x3_2).f2) true _ A21.out).mono ?_
              rintro e w33 ⟨rfl,hb⟩
              refine ⟨_,rfl,?_⟩
              replace BK1313 := zb BK1313 hb
              replace HB := zs_ HB hb
              (try clear hb)
              (try clear hb2)
              (try clear hk)
              (try clear hi)
              refine hK.out _ _ ⟨(blk_cell BK1313.out 0).trans rfl,(blk_cell BK1313.out 1).trans rfl,(blk_cell BK1313.out 2).trans rfl,(blk_cell BK1313.out 3).trans rfl,(blk_cell BK1313.out 4).trans rfl,(blk_cell BK1313.out 5).trans rfl,(blk_cell BK1313.out 6).trans rfl,(zx_ HB hw1315_0),(zx_ HB hw1315_1),(zx_ HB hw1315_2),(zx_ HB hw1317_0),(zx_ HB hw1317_1),(zx_ HB hw1317_2),(zx_ HB hw1318_0),(zx_ HB hw1318_1),(zx_ HB hw1318_2)⟩ (fun hHeld => ?_)
              clear hK K
              refine norm_ (a' := ?_) ?_ ?_
              rotate_left
              ·show Act.put _ (some 38) _ = _
               simp only [Act.put,p1_,p2_,p3_,i64_w,i32_w]
               rfl
              refine zpu 6 (N := some 39) HT_ ?_
              refine zpu 7 (N := some 40) HT_ ?_
              refine zpu 8 (N := some 41) HT_ ?_
              refine zpu 9 (N := some 42) HT_ ?_
              refine zpu 10 (N := some 43) HT_ ?_
              refine zpu 11 (N := some 44) HT_ ?_
              refine zpu 13 (N := some 46) HT_ ?_
              refine zpu 14 (N := some 47) HT_ ?_
              refine zpu 18 (N := some 51) HT_ ?_
              refine zpu 20 (N := some 53) HT_ ?_
              refine ztk 12 (N := some 45) HT_ HW_ hHeld ?_
              refine zpu 15 (N := some 48) HT_ ?_
              refine zpu 16 (N := some 49) HT_ ?_
              refine ztk 17 (N := some 50) HT_ HW_ hHeld ?_
              refine ztk 19 (N := some 52) HT_ HW_ hHeld ?_
              refine zpu 21 (N := some 54) HT_ ?_
              refine zpu 22 (N := some 55) HT_ ?_
              refine ztk 23 (N := some 56) HT_ HW_ hHeld ?_
              refine zpu 24 (N := some 57) HT_ ?_
              refine zpu 25 (N := some 58) HT_ ?_
              refine zpu 26 (N := some 59) HT_ ?_
              refine done_ (done_of HT_.out (by kernel_rfl)) ?_
              try go_wp2
              go_roundg k2
              case measure => have := HJ7.out;have := HK2.out;omega
              case rel => exact ⟨(wrap64 (x3_2 + 1)),(by first | rfl | (simp;done) | (simp [*];done)),H',⟨by have := HJ7.out;have := HK2.out;omega⟩,⟨by (with_reducible repeat (first | apply k1_ | apply k2_ | apply k3_));exact BK1313.out⟩,⟨zl_ HB⟩⟩
            ·rw [if_neg c26] at H
             exact absurd H (by simp)
           ·rw [if_neg c25] at H
            exact absurd H (by simp)
          ·rw [if_neg c23] at H
           have c23b0 : decide (0 < x3_2) = false := decide_eq_false c23
           clear c23
           have H' := am_ H
           clear H
           obtain ⟨hcz34_0,hcz34_1,hcz34_2,hcz34_3,hcz34_4,hcz34_5,hcz34_6,hfz34_0,hfz34_1,hfz34_2,hfz34_3,hfz34_4,hfz34_5,hfz34_6⟩ := zc7 BK1313
           try go_wp2
           replace BK1313 := am_ (blk_drew BK1313.out)
           replace HB := am_ (below_drew1 HB.out)
           have p1315 : 0 ≤ (x3_2 : Int) := zo_
           have q1315 : x3_2 < (l0_6.length : Int) := zo_
           obtain ⟨ad1315,e1315,hx1315_0,hx1315_1,hx1315_2⟩ := at_T185 HR0_6.out x3_2 p1315 q1315
           have hw1315_2 := hx1315_2
           have hw1315_1 := hx1315_1
           have hw1315_0 := hx1315_0
           cases e1315
           replace hx1315_0 := zx_ HB hx1315_0
           replace hx1315_1 := zx_ HB hx1315_1
           replace hx1315_2 := zx_ HB hx1315_2
           replace p1315 := eq_true p1315
           replace q1315 := eq_true q1315
           refine start_ (n := 27) (S := fun w' => w'.cell? ⟨gb1313,0,none⟩ = some (.bool false) ∧ w'.cell? ⟨gb1313,1,none⟩ = some (.int .i64 a0_1) ∧ w'.cell? ⟨gb1313,2,none⟩ = some (.int .i64 a0_2) ∧ w'.cell? ⟨gb1313,3,none⟩ = some (.int .i64 a0_3) ∧ w'.cell? ⟨gb1313,4,none⟩ = some (.int .i64 a0_4) ∧ w'.cell? ⟨gb1313,5,none⟩ = some (.string a0_5) ∧ w'.cell? ⟨gb1313,6,none⟩ = some (.slice (some ad1315) l0_6.length c0_6) ∧ w'.cell? (ad1315.add ((x3_2).toNat * 3)) = some (.int .i64 ((rd_T185 l0_6 x3_2).f0)) ∧ w'.cell? ⟨(ad1315.add ((x3_2).toNat * 3)).block,(ad1315.add ((x3_2).toNat * 3)).off + 1,none⟩ = some (.int .i64 ((rd_T185 l0_6 x3_2).f1)) ∧ w'.cell? ⟨(ad1315.add ((x3_2).toNat * 3)).block,(ad1315.add ((x3_2).toNat * 3)).off + 2,none⟩ = some (.string ((rd_T185 l0_6 x3_2).f2))) (ds := []) #[false,false,false,false,false,false,false,false,false,false,false,false,false,false,false,false,false,false,false,false,false,false,false,false,false,false,false] (by kernel_rfl) rfl rfl ⟨(blk_cell BK1313.out 0).trans rfl,(blk_cell BK1313.out 1).trans rfl,(blk_cell BK1313.out 2).trans rfl,(blk_cell BK1313.out 3).trans rfl,(blk_cell BK1313.out 4).trans rfl,(blk_cell BK1313.out 5).trans rfl,(blk_cell BK1313.out 6).trans rfl,(zx_ HB hw1315_0),(zx_ HB hw1315_1),(zx_ HB hw1315_2)⟩ (fun hHeld => ?_);refine with_tabW spec_l02BatchOK.tab8 spec_l02BatchOK.bits8 (fun HT_ HW_ => ?_)
           generalize wr.drew = w35 at BK1313 HB hx1315_0 hx1315_1 hx1315_2 hHeld ⊢
           refine zpu 0 (N := some 33) HT_ ?_
           refine zpu 2 (N := some 35) HT_ ?_
           refine ztk 1 (N := some 34) HT_ HW_ hHeld ?_
           refine zpu 3 (N := some 36) HT_ ?_
           refine ztk 4 (N := some 37) HT_ HW_ hHeld ?_
           refine zon 5 (N := some 38) HT_ (fun K hK => ?_)
           refine zgo Tryd.func172 #[.agg #[.int .i64 ((rd_T185 l0_6 x3_2).f0),.int .i64 ((rd_T185 l0_6 x3_2).f1),.string ((rd_T185 l0_6 x3_2).f2)]] ?_
           with_reducible refine (spec_l02Reading.calls ((rd_T185 l0_6 x3_2).f0) ((rd_T185 l0_6 x3_2).f1) ((rd_T185 l0_6 x3_2).f2) true _ A21.out).mono ?_
           rintro e w36 ⟨rfl,hb⟩
           refine ⟨_,rfl,?_⟩
           replace BK1313 := zb BK1313 hb
           replace HB := zs_ HB hb
           (try clear hb)
           (try clear hb2)
           (try clear hk)
           (try clear hi)
           refine hK.out _ _ ⟨(blk_cell BK1313.out 0).trans rfl,(blk_cell BK1313.out 1).trans rfl,(blk_cell BK1313.out 2).trans rfl,(blk_cell BK1313.out 3).trans rfl,(blk_cell BK1313.out 4).trans rfl,(blk_cell BK1313.out 5).trans rfl,(blk_cell BK1313.out 6).trans rfl,(zx_ HB hw1315_0),(zx_ HB hw1315_1),(zx_ HB hw1315_2)⟩ (fun hHeld => ?_)
           clear hK K
           refine norm_ (a' := ?_) ?_ ?_
           rotate_left
           ·show Act.put _ (some 38) _ = _
            simp only [Act.put,p1_,p2_,p3_,i64_w,i32_w]
            rfl
           refine zpu 6 (N := some 39) HT_ ?_
           refine zpu 7 (N := some 40) HT_ ?_
           refine zpu 8 (N := some 41) HT_ ?_
           refine zpu 9 (N := some 42) HT_ ?_
           refine zpu 10 (N := some 43) HT_ ?_
           refine zpx 11 (N := some 44) HT_ ?_
           refine zpx 12 (N := some 45) HT_ ?_
           refine zpx 13 (N := some 46) HT_ ?_
           refine zpx 14 (N := some 47) HT_ ?_
           refine zpx 15 (N := some 48) HT_ ?_
           refine zpx 16 (N := some 49) HT_ ?_
           refine zpx 17 (N := some 50) HT_ ?_
           refine zpx 18 (N := some 51) HT_ ?_
           refine zpx 19 (N := some 52) HT_ ?_
           refine zpx 20 (N := some 53) HT_ ?_
           refine zpx 21 (N := some 54) HT_ ?_
           refine zpx 22 (N := some 55) HT_ ?_
           refine zpx 23 (N := some 56) HT_ ?_
           refine zpx 24 (N := some 57) HT_ ?_
           refine zpu 25 (N := some 58) HT_ ?_
           refine zpu 26 (N := some 59) HT_ ?_
           refine done_ (done_of HT_.out (by kernel_rfl)) ?_
           try go_wp2
           go_roundg k2
           case measure => have := HJ7.out;have := HK2.out;omega
           case rel => exact ⟨(wrap64 (x3_2 + 1)),(by first | rfl | (simp;done) | (simp [*];done)),H',⟨by have := HJ7.out;have := HK2.out;omega⟩,⟨by (with_reducible repeat (first | apply k1_ | apply k2_ | apply k3_));exact BK1313.out⟩,⟨zl_ HB⟩⟩
         ·replace c22 := Bool.eq_false_iff.mpr c22
          subst c22
          have H1 : (some false) = some r := by rw [if_neg (show ¬ (false = true) by decide)] at H;exact H
          clear H
          have H := H1
          clear H1
          obtain rfl := Option.some.inj H
          obtain ⟨hcz37_0,hcz37_1,hcz37_2,hcz37_3,hcz37_4,hcz37_5,hcz37_6,hfz37_0,hfz37_1,hfz37_2,hfz37_3,hfz37_4,hfz37_5,hfz37_6⟩ := zc7 BK1313
          try go_wp2
          replace BK1313 := am_ (blk_drew BK1313.out)
          replace HB := am_ (below_drew1 HB.out)
          have p1315 : 0 ≤ (x3_2 : Int) := zo_
          have q1315 : x3_2 < (l0_6.length : Int) := zo_
          obtain ⟨ad1315,e1315,hx1315_0,hx1315_1,hx1315_2⟩ := at_T185 HR0_6.out x3_2 p1315 q1315
          have hw1315_2 := hx1315_2
          have hw1315_1 := hx1315_1
          have hw1315_0 := hx1315_0
          cases e1315
          replace hx1315_0 := zx_ HB hx1315_0
          replace hx1315_1 := zx_ HB hx1315_1
          replace hx1315_2 := zx_ HB hx1315_2
          replace p1315 := eq_true p1315
          replace q1315 := eq_true q1315
          refine start_ (n := 27) (S := fun w' => w'.cell? ⟨gb1313,0,none⟩ = some (.bool false) ∧ w'.cell? ⟨gb1313,1,none⟩ = some (.int .i64 a0_1) ∧ w'.cell? ⟨gb1313,2,none⟩ = some (.int .i64 a0_2) ∧ w'.cell? ⟨gb1313,3,none⟩ = some (.int .i64 a0_3) ∧ w'.cell? ⟨gb1313,4,none⟩ = some (.int .i64 a0_4) ∧ w'.cell? ⟨gb1313,5,none⟩ = some (.string a0_5) ∧ w'.cell? ⟨gb1313,6,none⟩ = some (.slice (some ad1315) l0_6.length c0_6) ∧ w'.cell? (ad1315.add ((x3_2).toNat * 3)) = some (.int .i64 ((rd_T185 l0_6 x3_2).f0)) ∧ w'.cell? ⟨(ad1315.add ((x3_2).toNat * 3)).block,(ad1315.add ((x3_2).toNat * 3)).off + 1,none⟩ = some (.int .i64 ((rd_T185 l0_6 x3_2).f1)) ∧ w'.cell? ⟨(ad1315.add ((x3_2).toNat * 3)).block,(ad1315.add ((x3_2).toNat * 3)).off + 2,none⟩ = some (.string ((rd_T185 l0_6 x3_2).f2))) (ds := []) #[false,false,false,false,false,false,false,false,false,false,false,false,false,false,false,false,false,false,false,false,false,false,false,false,false,false,false] (by kernel_rfl) rfl rfl ⟨(blk_cell BK1313.out 0).trans rfl,(blk_cell BK1313.out 1).trans rfl,(blk_cell BK1313.out 2).trans rfl,(blk_cell BK1313.out 3).trans rfl,(blk_cell BK1313.out 4).trans rfl,(blk_cell BK1313.out 5).trans rfl,(blk_cell BK1313.out 6).trans rfl,(zx_ HB hw1315_0),(zx_ HB hw1315_1),(zx_ HB hw1315_2)⟩ (fun hHeld => ?_);refine with_tabW spec_l02BatchOK.tab8 spec_l02BatchOK.bits8 (fun HT_ HW_ => ?_)
          generalize wr.drew = w38 at BK1313 HB hx1315_0 hx1315_1 hx1315_2 hHeld ⊢
          refine zpu 0 (N := some 33) HT_ ?_
          refine zpu 2 (N := some 35) HT_ ?_
          refine ztk 1 (N := some 34) HT_ HW_ hHeld ?_
          refine zpu 3 (N := some 36) HT_ ?_
          refine ztk 4 (N := some 37) HT_ HW_ hHeld ?_
          refine zon 5 (N := some 38) HT_ (fun K hK => ?_)
          refine zgo Tryd.func172 #[.agg #[.int .i64 ((rd_T185 l0_6 x3_2).f0),.int .i64 ((rd_T185 l0_6 x3_2).f1),.string ((rd_T185 l0_6 x3_2).f2)]] ?_
          with_reducible refine (spec_l02Reading.calls ((rd_T185 l0_6 x3_2).f0) ((rd_T185 l0_6 x3_2).f1) ((rd_T185 l0_6 x3_2).f2) false _ A21.out).mono ?_
          rintro e w39 ⟨rfl,hb⟩
          refine ⟨_,rfl,?_⟩
          replace BK1313 := zb BK1313 hb
          replace HB := zs_ HB hb
          (try clear hb)
          (try clear hb2)
          (try clear hk)
          (try clear hi)
          refine hK.out _ _ ⟨(blk_cell BK1313.out 0).trans rfl,(blk_cell BK1313.out 1).trans rfl,(blk_cell BK1313.out 2).trans rfl,(blk_cell BK1313.out 3).trans rfl,(blk_cell BK1313.out 4).trans rfl,(blk_cell BK1313.out 5).trans rfl,(blk_cell BK1313.out 6).trans rfl,(zx_ HB hw1315_0),(zx_ HB hw1315_1),(zx_ HB hw1315_2)⟩ (fun hHeld => ?_)
          clear hK K
          refine norm_ (a' := ?_) ?_ ?_
          rotate_left
          ·show Act.put _ (some 38) _ = _
           simp only [Act.put,p1_,p2_,p3_,i64_w,i32_w]
           rfl
          refine zpu 6 (N := some 39) HT_ ?_
          refine zpu 7 (N := some 40) HT_ ?_
          refine zpx 8 (N := some 41) HT_ ?_
          refine zpx 9 (N := some 42) HT_ ?_
          refine zpx 10 (N := some 43) HT_ ?_
          refine zpx 11 (N := some 44) HT_ ?_
          refine zpx 12 (N := some 45) HT_ ?_
          refine zpx 13 (N := some 46) HT_ ?_
          refine zpx 14 (N := some 47) HT_ ?_
          refine zpx 15 (N := some 48) HT_ ?_
          refine zpx 16 (N := some 49) HT_ ?_
          refine zpx 17 (N := some 50) HT_ ?_
          refine zpx 18 (N := some 51) HT_ ?_
          refine zpx 19 (N := some 52) HT_ ?_
          refine zpx 20 (N := some 53) HT_ ?_
          refine zpx 21 (N := some 54) HT_ ?_
          refine zpx 22 (N := some 55) HT_ ?_
          refine zpx 23 (N := some 56) HT_ ?_
          refine zpx 24 (N := some 57) HT_ ?_
          refine zpx 25 (N := some 58) HT_ ?_
          refine zpu 26 (N := some 59) HT_ ?_
          refine done_ (done_of HT_.out (by kernel_rfl)) ?_
          try go_wp2
          go_ret
          exact ⟨zt_,zl_ HB⟩
        ·rw [if_neg c20] at H
         exact absurd H (by simp)
       ·rw [if_neg c19] at H
        have c19b0 : decide (x3_2 < (l0_6.length : Int)) = false := decide_eq_false c19
        clear c19
        obtain rfl := Option.some.inj H
        obtain ⟨hcz40_0,hcz40_1,hcz40_2,hcz40_3,hcz40_4,hcz40_5,hcz40_6,hfz40_0,hfz40_1,hfz40_2,hfz40_3,hfz40_4,hfz40_5,hfz40_6⟩ := zc7 BK1313
        go_wp2
        go_ret
        exact ⟨zt_,zl_ HB⟩
end Go.Proofs.YtlifdodphkimpaaDoor.C
end

section
namespace Go.Proofs.YtlifdodphkimpaaDoor.C
open Go.RowKit Go.Proofs.YtlifdodphkimpaaDoorW.PrintWords Go.Proofs.YtlifdodphkimpaaDoorW.PrintLast Go.Proofs.YtlifdodphkimpaaDoorW.PrintMore
attribute [local go_sem] max2_int min2_int max_two min_two max_three min_three max_four min_four
set_option maxHeartbeats 8000000 in
set_option maxRecDepth 100000 in
theorem spec_l02Of.calls (k : Nat) (a0 : ByteArray) (r : Int) (w : World) (h : spec_l02Of.f k a0 = some r) :
  Calls Tryd.prog 169 #[.string a0] w fun e w' => e = .returned (.int .i64 r) ∧ Drawn0 w w' := by
 have H : (spec_l02Of.l0 k a0 0 0) = some r := h
 clear h
 have H' := am_ H
 clear H
 go_enter Tryd.func169,Tryd.ntmps169
 go_wp2
 go_loopg [3,4] k (fun kq v3 v4 w' => ∃ (x3_1 : Int) (x4_1 : Int),v3 = .int .i64 x3_1 ∧ v4 = .int .i64 x4_1 ∧ Aside0 (spec_l02Of.l0 kq a0 x3_1 x4_1 = some r) ∧ Aside0 (kq ≤ k) ∧ Drawn0 w w')
 case atStart => exact ⟨(0),(0),(by first | rfl | (simp;done) | (simp [*];done)),(by first | rfl | (simp;done) | (simp [*];done)),H',⟨Nat.le_refl _⟩,by repeat (first | exact Drawn0.refl _ | apply Drawn0.step)⟩
 case round =>
  clear H'
  try clear c1
  obtain ⟨x3_1,x4_1,rfl,rfl,HA,HK1,⟨m1,rfl⟩⟩ := hrel
  cases gk with
  | zero => exact absurd HA.out (by simp [spec_l02Of.l0])
  | succ k1 =>
   have H := HA.out
   clear HA
   simp only [spec_l02Of.l0] at H
   by_cases c2 : x4_1 < (a0.size : Int)
   ·rw [if_pos c2] at H
    have c2b0 : decide (x4_1 < (a0.size : Int)) = true := decide_eq_true c2
    clear c2
    by_cases c3 : 0 ≤ x4_1
    ·rw [if_pos c3] at H
     have c3b0 : decide (0 ≤ x4_1) = true := decide_eq_true c3
     clear c3
     have H' := am_ H
     clear H
     have p4 : 0 ≤ (x4_1 : Int) := zo_
     have q4 : x4_1 < (a0.size : Int) := zo_
     have hx4 := bt_at a0 x4_1
     replace p4 := eq_true p4
     replace q4 := eq_true q4
     go_wp2
     go_roundg k1
     case measure => have := HK1.out;omega
     case rel => exact ⟨(wrap64 ((wrap64 (x3_1 * 256)) + (wrap64 (bt a0 x4_1)))),(wrap64 (x4_1 + 1)),(by first | rfl | (simp;done) | (simp [*];done)),(by first | rfl | (simp;done) | (simp [*];done)),H',⟨by have := HK1.out;omega⟩,by repeat (first | exact Drawn0.refl _ | apply Drawn0.step)⟩
    ·rw [if_neg c3] at H
     exact absurd H (by simp)
   ·rw [if_neg c2] at H
    have c2b0 : decide (x4_1 < (a0.size : Int)) = false := decide_eq_false c2
    clear c2
    obtain rfl := Option.some.inj H
    go_wp2
    go_ret
    exact ⟨by first | rfl | (simp;done) | (simp [*];done),by repeat (first | exact Drawn0.refl _ | apply Drawn0.step)⟩
def spec_l02ReadRequest.T3 : Bool × List (List Nat × List Nat) := (true,[([],[]),([0],[0]),([1],[1]),([],[]),([3],[3]),([4],[4]),([],[]),([6],[6]),([7],[7]),([],[]),([9],[9]),([10,5],[10]),([],[]),([12],[12]),([2,5,8,11,13],[2,5,8,11,13]),([],[]),([15,14,11,0,1,2,3,4,5,6,7,8,9,10,11,12,13,14,15],[14,15])])
def spec_l02ReadRequest.B3 : List Nat := [0,1,3,0,8,24,0,64,192,0,512,1592,0,4096,16383,0,65535]
theorem spec_l02ReadRequest.tab3 : rtab .any (opsOf Tryd.f170 3) = spec_l02ReadRequest.T3 := by kernel_rfl
theorem spec_l02ReadRequest.bits3 : waitsOk spec_l02ReadRequest.T3.2 spec_l02ReadRequest.B3 = true := by kernel_rfl
set_option maxHeartbeats 8000000 in
set_option maxRecDepth 100000 in
theorem spec_l02ReadRequest.calls (k : Nat) (a0 : ByteArray) (r1 : Int) (r2 : Int) (r3 : Int) (r4 : Int) (r5 : ByteArray) (r6 : Bool) (w : World) (h : spec_l02ReadRequest.f k a0 = some (r1,r2,r3,r4,r5,r6)) :
  Calls Tryd.prog 170 #[.string a0] w fun e w' => e = .returned (.tuple #[.agg #[.int .i64 r1,.int .i64 r2,.int .i64 r3,.int .i64 r4,.string r5],.bool r6]) ∧ Below w.heap.size w w' := by
 have hu85 := Tryd.underlying85
 have HB := am_ (Below.refl w.heap.size w)
 have H : (if (a0.size : Int) < 7 then (spec_l02ReadRequest.j0 k a0 true) else (if 6 < (a0.size : Int) then (spec_l02ReadRequest.j0 k a0 ((a0.size : Int) != (wrap64 (7 + (wrap64 (bt a0 6)))))) else (none))) = some (r1,r2,r3,r4,r5,r6) := h
 clear h
 have HC2 := am_ H
 clear H
 go_enter Tryd.func170,Tryd.ntmps170
 go_upto_region 1 with (first | ((with_reducible refine gate_dst (N := 2) rfl ?_);(try (refine gate_guard (by rfl) ?_;dsimp only));refine zbx (N := 2) (cs := #[.int .i64 0,.int .i64 0,.int .i64 0,.int .i64 0,.string ⟨#[]⟩]) (t := 85) ?_;intro gb1305 hg w3 hbox hb;have BK1305 := am_ (hbox);have GW1305 := zw_ HB hg;have GE1305 := zw_ HB hg;replace HB := zs_ HB hb;clear hb hbox hg))
 (try simp only [Act.put,p1_,p2_,p3_])
 go_cut [16] (fun v16 wc => ∃ (kq : Nat) (x16_1 : Bool),v16 = .bool x16_1 ∧ Aside0 (spec_l02ReadRequest.j0 kq a0 x16_1 = some (r1,r2,r3,r4,r5,r6)) ∧ Aside0 (kq ≤ k) ∧ Aside0 (wc.heap[gb1305]? = some (.cells #[.int .i64 0,.int .i64 0,.int .i64 0,.int .i64 0,.string ⟨#[]⟩] 85 (0,0))) ∧ Aside0 (Below w.heap.size w wc))
 case first =>
  have H := HC2.out
  clear HC2
  by_cases c4 : (a0.size : Int) < 7
  ·rw [if_pos c4] at H
   have c4b0 : decide ((a0.size : Int) < 7) = true := decide_eq_true c4
   have c4b1 : decide (a0.size < 7) = true := decide_eq_true (by omega)
   clear c4
   (first | rw [c4b0] | (simp only [i64_w,i32_w];rw [c4b0]) | skip)
   have H' := am_ H
   clear H
   go_wp2
   go_meet
   case rel => exact ⟨_,(true),(by first | rfl | (simp;done) | (simp [*];done)),H',⟨by first | omega | exact Nat.le_refl _⟩,⟨by (with_reducible repeat (first | apply k1_ | apply k2_ | apply k3_));exact BK1305.out⟩,⟨zl_ HB⟩⟩
  ·rw [if_neg c4] at H
   have c4b0 : decide ((a0.size : Int) < 7) = false := decide_eq_false c4
   have c4b1 : decide (a0.size < 7) = false := decide_eq_false (by omega)
   clear c4
   (first | rw [c4b0] | (simp only [i64_w,i32_w];rw [c4b0]) | skip)
   by_cases c5 : 6 < (a0.size : Int)
   ·rw [if_pos c5] at H
    have c5b0 : decide (6 < (a0.size : Int)) = true := decide_eq_true c5
    have c5b1 : decide (6 < a0.size) = true := decide_eq_true (by omega)
    clear c5
    have H' := am_ H
    clear H
    have p6 : 0 ≤ (6 : Int) := (by omega)
    have q6 : 6 < a0.size := (by have : (6 : Int) < (a0.size : Int) := zo_;omega)
    have hx6 : ∀ h : 6 < a0.size,((a0[6]'h).toNat : Int) = bt a0 6 := bt_at a0 6
    clear p6
    have qi6 : (6 < (a0.size : Int)) = True := eq_true (zo_)
    replace q6 := eq_true q6
    go_wp2
    go_meet
    case rel => exact ⟨_,(((a0.size : Int) != (wrap64 (7 + (wrap64 (bt a0 6)))))),(by first | rfl | (simp;done) | (simp [*];done)),H',⟨by first | omega | exact Nat.le_refl _⟩,⟨by (with_reducible repeat (first | apply k1_ | apply k2_ | apply k3_));exact BK1305.out⟩,⟨zl_ HB⟩⟩
   ·rw [if_neg c5] at H
    exact absurd H (by simp)
 case rest =>
  clear HC2
  try clear c1
  try clear p2
  try clear c4
  try clear c4b0
  try clear c4b1
  try clear c5
  try clear c5b0
  try clear c5b1
  try clear p6
  try clear q6
  try clear hx6
  try clear qi6
  try clear p6
  try clear q6
  obtain ⟨kq,x16_1,rfl,HA,HJ1,BK1305,HB⟩ := hcut
  cases kq with
  | zero => exact absurd HA.out (by simp [spec_l02ReadRequest.j0])
  | succ kj1 =>
   have H := HA.out
   clear HA
   simp only [spec_l02ReadRequest.j0] at H
   by_cases c7 : x16_1 = true
   ·subst c7
    have H1 : (some (0,0,0,0,(⟨#[]⟩ : ByteArray),false)) = some (r1,r2,r3,r4,r5,r6) := by rw [if_pos rfl] at H;exact H
    clear H
    have H := H1
    clear H1
    simp only [Option.some.injEq,Prod.mk.injEq] at H
    obtain ⟨rfl,rfl,rfl,rfl,rfl,rfl⟩ := H
    obtain ⟨hcz8_0,hcz8_1,hcz8_2,hcz8_3,hcz8_4,hfz8_0,hfz8_1,hfz8_2,hfz8_3,hfz8_4⟩ := zc5 BK1305
    go_wp2
    refine bodyPost_ret (results_ct rfl _ _ gb1305 85 #[.int .i64 0,.int .i64 0,.int .i64 0,.int .i64 0,.string ⟨#[]⟩] (0,0) _ rfl (zq BK1305) Tryd.underlying85 rfl (by kernel_rfl)) rfl ?_
    exact ⟨zt_,zl_ HB⟩
   ·replace c7 := Bool.eq_false_iff.mpr c7
    subst c7
    have H1 : (if 0 < (a0.size : Int) then (if 1 ≤ 3 then (if 3 ≤ (a0.size : Int) then ((spec_l02Of.f kj1 (a0.extract 1 3)).bind fun t1306 => (if 3 < (a0.size : Int) then (if 4 ≤ 6 then (if 6 ≤ (a0.size : Int) then ((spec_l02Of.f kj1 (a0.extract 4 6)).bind fun t1307 => (if 7 ≤ (a0.size : Int) then ((spec_RequestOK.f kj1 (wrap64 (bt a0 0)) t1306 (wrap64 (bt a0 3)) t1307 (a0.extract 7 a0.size)).bind fun t1309 => (some (wrap64 (bt a0 0),t1306,wrap64 (bt a0 3),t1307,a0.extract 7 a0.size,t1309))) else (none))) else (none)) else (none)) else (none))) else (none)) else (none)) else (none)) = some (r1,r2,r3,r4,r5,r6) := by rw [if_neg (show ¬ (false = true) by decide)] at H;exact H
    clear H
    have H := H1
    clear H1
    by_cases c9 : 0 < (a0.size : Int)
    ·rw [if_pos c9] at H
     have c9b0 : decide (0 < (a0.size : Int)) = true := decide_eq_true c9
     have c9b1 : decide (0 < a0.size) = true := decide_eq_true (by omega)
     clear c9
     by_cases c11 : 1 ≤ 3
     ·rw [if_pos c11] at H
      have c11b0 := eq_true c11
      have c11b1 : decide (1 ≤ 3) = true := decide_eq_true c11
      clear c11
      by_cases c12 : 3 ≤ (a0.size : Int)
      ·rw [if_pos c12] at H
       have c12b0 := eq_true c12
       have c12b1 : decide (3 ≤ (a0.size : Int)) = true := decide_eq_true c12
       clear c12
       replace H := Option.bind_eq_some_iff.mp H
       obtain ⟨t1306,A130,H⟩ := H
       try dsimp only at H
       have A13 := am_ A130
       clear A130
       by_cases c14 : 3 < (a0.size : Int)
       ·rw [if_pos c14] at H
        have c14b0 : decide (3 < (a0.size : Int)) = true := decide_eq_true c14
        have c14b1 : decide (3 < a0.size) = true := decide_eq_true (by omega)
        clear c14
        by_cases c16 : 4 ≤ 6
        ·rw [if_pos c16] at H
         have c16b0 := eq_true c16
         have c16b1 : decide (4 ≤ 6) = true := decide_eq_true c16
         clear c16
         by_cases c17 : 6 ≤ (a0.size : Int)
         ·rw [if_pos c17] at H
          have c17b0 := eq_true c17
          have c17b1 : decide (6 ≤ (a0.size : Int)) = true := decide_eq_true c17
          clear c17
          replace H := Option.bind_eq_some_iff.mp H
          obtain ⟨t1307,A180,H⟩ := H
          try dsimp only at H
          have A18 := am_ A180
          clear A180
          by_cases c19 : 7 ≤ (a0.size : Int)
          ·rw [if_pos c19] at H
           have c19b0 := eq_true c19
           have c19b1 : decide (7 ≤ (a0.size : Int)) = true := decide_eq_true c19
           clear c19
           replace H := Option.bind_eq_some_iff.mp H
           obtain ⟨t1309,A200,H⟩ := H
           try dsimp only at H
           have A20 := am_ A200
           clear A200
           simp only [Option.some.injEq,Prod.mk.injEq] at H
           obtain ⟨rfl,rfl,rfl,rfl,rfl,rfl⟩ := H
           try go_wp2
           replace BK1305 := am_ (blk_drew BK1305.out)
           replace HB := am_ (below_drew1 HB.out)
           have p10 : 0 ≤ (0 : Int) := (by omega)
           have q10 : 0 < a0.size := (by have : (0 : Int) < (a0.size : Int) := zo_;omega)
           have hx10 : ∀ h : 0 < a0.size,((a0[0]'h).toNat : Int) = bt a0 0 := bt_at a0 0
           clear p10
           have qi10 : (0 < (a0.size : Int)) = True := eq_true (zo_)
           replace q10 := eq_true q10
           have p15 : 0 ≤ (3 : Int) := (by omega)
           have q15 : 3 < a0.size := (by have : (3 : Int) < (a0.size : Int) := zo_;omega)
           have hx15 : ∀ h : 3 < a0.size,((a0[3]'h).toNat : Int) = bt a0 3 := bt_at a0 3
           clear p15
           have qi15 : (3 < (a0.size : Int)) = True := eq_true (zo_)
           replace q15 := eq_true q15
           refine start_ (n := 17) (S := fun w' => True) (ds := []) #[false,false,false,false,false,false,false,false,false,false,false,false,false,false,false,false,false] (by kernel_rfl) rfl rfl trivial (fun hHeld => ?_);refine with_tabW spec_l02ReadRequest.tab3 spec_l02ReadRequest.bits3 (fun HT_ HW_ => ?_)
           generalize wc.drew = w21 at BK1305 HB hHeld ⊢
           refine zpu 0 (N := some 18) HT_ ?_
           refine zpu 3 (N := some 21) HT_ ?_
           refine zpu 4 (N := some 22) HT_ ?_
           refine zpu 6 (N := some 24) HT_ ?_
           refine zpu 9 (N := some 27) HT_ ?_
           refine zpu 10 (N := some 28) HT_ ?_
           refine zpu 12 (N := some 30) HT_ ?_
           refine zpu 13 (N := some 31) HT_ ?_
           refine take_ (i := 1) (N := some 19) (v := ?_) (a' := ?_) #[true,true,false,true,true,false,true,false,false,true,true,false,true,true,false,false,false] rfl rfl (take_ofW HT_.out HW_.out (by kernel_rfl)) (fun _ _ _ h => h) (Or.inl ⟨by rfl,?_⟩) hHeld ?_ ?_
           rotate_left
           ·intro w' _
            go_simp
            with_reducible rfl
           rotate_left
           ·simp only [Act.put,p1_,p2_,p3_,i64_w,i32_w]
            rfl
           refine zpu 2 (N := some 20) HT_ ?_
           refine take_ (i := 7) (N := some 25) (v := ?_) (a' := ?_) #[true,true,true,true,true,false,true,true,false,true,true,false,true,true,false,false,false] rfl rfl (take_ofW HT_.out HW_.out (by kernel_rfl)) (fun _ _ _ h => h) (Or.inl ⟨by rfl,?_⟩) hHeld ?_ ?_
           rotate_left
           ·intro w' _
            go_simp
            with_reducible rfl
           rotate_left
           ·simp only [Act.put,p1_,p2_,p3_,i64_w,i32_w]
            rfl
           refine zpu 8 (N := some 26) HT_ ?_
           refine join_ (σ := Nat) 1 #[true,true,true,true,true,true,true,true,true,true,true,true,true,true,true,true,false] (fun s_ => [(23,.int .i64 t1306),(29,.int .i64 t1307),(4,.pointer (some ⟨s_,0,none⟩)),(32,.agg #[.int .i64 (wrap64 (bt a0 0)),.int .i64 t1306,.int .i64 (wrap64 (bt a0 3)),.int .i64 t1307,.string (a0.extract 7 a0.size)])]) (fun s_ w' => (w'.heap[gb1305]? = some (.cells #[.int .i64 0,.int .i64 0,.int .i64 0,.int .i64 0,.string ⟨#[]⟩] 85 (0,0))) ∧ (w'.heap[s_]? = some (.cells #[.int .i64 0,.int .i64 0,.int .i64 0,.int .i64 0,.string ⟨#[]⟩] 85 (0,0))) ∧ (w.heap.size ≤ s_) ∧ (w.heap.size ≤ s_) ∧ (gb1305 ≠ s_) ∧ (s_ ≠ gb1305) ∧ (Below w.heap.size w w')) ?_ ?_
           rotate_left
           ·intro hCont
            refine two_ (i := 5) (j := 15) (Ni := some 23) (Nj := some 4) #[true,true,true,true,true,true,true,true,true,true,true,false,true,true,false,false,false] #[true,true,true,true,true,false,true,true,true,true,true,false,true,true,false,true,false] rfl rfl rfl rfl (two_of HT_.out (by kernel_rfl)) (by decide) (by decide) (fun K hK => ?_) (fun K hK => ?_)
            ·skip
             refine zgo Tryd.func169 #[.string (a0.extract 1 3)] ?_
             with_reducible refine (spec_l02Of.calls kj1 (a0.extract 1 3) t1306 _ A13.out).mono ?_
             rintro e w' ⟨rfl,⟨nd,rfl⟩⟩
             refine ⟨_,rfl,?_⟩
             refine hK.out _ _ trivial (fun hHeld => ?_)
             clear hK K
             refine norm_ (a' := ?_) ?_ ?_
             rotate_left
             ·show Act.put _ (some 23) _ = _
              simp only [Act.put,p1_,p2_,p3_,i64_w,i32_w]
              rfl
             refine two_ (i := 11) (j := 15) (Ni := some 29) (Nj := some 4) #[true,true,true,true,true,true,true,true,true,true,true,true,true,true,false,false,false] #[true,true,true,true,true,true,true,true,true,true,true,false,true,true,false,true,false] rfl rfl rfl rfl (two_of HT_.out (by kernel_rfl)) (by decide) (by decide) (fun K hK => ?_) (fun K hK => ?_)
             ·skip
              refine zgo Tryd.func169 #[.string (a0.extract 4 6)] ?_
              with_reducible refine (spec_l02Of.calls kj1 (a0.extract 4 6) t1307 _ A18.out).mono ?_
              rintro e w' ⟨rfl,⟨nd,rfl⟩⟩
              refine ⟨_,rfl,?_⟩
              refine hK.out _ _ trivial (fun hHeld => ?_)
              clear hK K
              refine norm_ (a' := ?_) ?_ ?_
              rotate_left
              ·show Act.put _ (some 29) _ = _
               simp only [Act.put,p1_,p2_,p3_,i64_w,i32_w]
               rfl
              refine zpu 14 (N := some 32) HT_ ?_
              refine zon 15 (N := some 4) HT_ (fun K hK => ?_)
              refine box_step ?hg (N := 4) ?hd (cs := #[.int .i64 0,.int .i64 0,.int .i64 0,.int .i64 0,.string ⟨#[]⟩]) (t := 85) ?hr ?_;(case hd => rfl);(case hg => rfl);(case hr => first | (go_simp;done) | (go_simp;rfl))
              intro gb1308 hg w22 hbox hb
              have BK1308 := am_ (hbox)
              have GW1308 := zw_ HB hg
              have GE1308 := zw_ HB hg
              replace HB := zs_ HB hb
              have NB1305_1308 := zl hg BK1305
              have NB1308_1305 := zg hg BK1305
              replace BK1305 := zb BK1305 hb
              clear hb hbox hg
              refine hK.out _ _ trivial (fun hHeld => ?_)
              clear hK K
              refine norm_ (a' := ?_) ?_ ?_
              rotate_left
              ·show Act.put _ (some 4) _ = _
               simp only [Act.put,p1_,p2_,p3_,i64_w,i32_w]
               rfl
              exact norm_ (by simp only [putAll,Act.put,p1_,p2_,p3_]) (hCont (gb1308) _ ⟨(zk BK1305),(zk BK1308),GW1308.out,GE1308.out,NB1305_1308.out,NB1308_1305.out,(zl_ HB)⟩)
             ·skip
              refine box_step ?hg (N := 4) ?hd (cs := #[.int .i64 0,.int .i64 0,.int .i64 0,.int .i64 0,.string ⟨#[]⟩]) (t := 85) ?hr ?_;(case hd => rfl);(case hg => rfl);(case hr => first | (go_simp;done) | (go_simp;rfl))
              intro gb1308 hg w22 hbox hb
              have BK1308 := am_ (hbox)
              have GW1308 := zw_ HB hg
              have GE1308 := zw_ HB hg
              replace HB := zs_ HB hb
              have NB1305_1308 := zl hg BK1305
              have NB1308_1305 := zg hg BK1305
              replace BK1305 := zb BK1305 hb
              clear hb hbox hg
              refine hK.out _ _ trivial (fun hHeld => ?_)
              clear hK K
              refine norm_ (a' := ?_) ?_ ?_
              rotate_left
              ·show Act.put _ (some 4) _ = _
               simp only [Act.put,p1_,p2_,p3_,i64_w,i32_w]
               rfl
              refine zon 11 (N := some 29) HT_ (fun K hK => ?_)
              refine zgo Tryd.func169 #[.string (a0.extract 4 6)] ?_
              with_reducible refine (spec_l02Of.calls kj1 (a0.extract 4 6) t1307 _ A18.out).mono ?_
              rintro e w' ⟨rfl,⟨nd,rfl⟩⟩
              refine ⟨_,rfl,?_⟩
              refine hK.out _ _ trivial (fun hHeld => ?_)
              clear hK K
              refine norm_ (a' := ?_) ?_ ?_
              rotate_left
              ·show Act.put _ (some 29) _ = _
               simp only [Act.put,p1_,p2_,p3_,i64_w,i32_w]
               rfl
              refine zpu 14 (N := some 32) HT_ ?_
              exact norm_ (by simp only [putAll,Act.put,p1_,p2_,p3_]) (hCont (gb1308) _ ⟨(zk BK1305),(zk BK1308),GW1308.out,GE1308.out,NB1305_1308.out,NB1308_1305.out,(zl_ HB)⟩)
            ·skip
             refine box_step ?hg (N := 4) ?hd (cs := #[.int .i64 0,.int .i64 0,.int .i64 0,.int .i64 0,.string ⟨#[]⟩]) (t := 85) ?hr ?_;(case hd => rfl);(case hg => rfl);(case hr => first | (go_simp;done) | (go_simp;rfl))
             intro gb1308 hg w22 hbox hb
             have BK1308 := am_ (hbox)
             have GW1308 := zw_ HB hg
             have GE1308 := zw_ HB hg
             replace HB := zs_ HB hb
             have NB1305_1308 := zl hg BK1305
             have NB1308_1305 := zg hg BK1305
             replace BK1305 := zb BK1305 hb
             clear hb hbox hg
             refine hK.out _ _ trivial (fun hHeld => ?_)
             clear hK K
             refine norm_ (a' := ?_) ?_ ?_
             rotate_left
             ·show Act.put _ (some 4) _ = _
              simp only [Act.put,p1_,p2_,p3_,i64_w,i32_w]
              rfl
             refine zon 5 (N := some 23) HT_ (fun K hK => ?_)
             refine zgo Tryd.func169 #[.string (a0.extract 1 3)] ?_
             with_reducible refine (spec_l02Of.calls kj1 (a0.extract 1 3) t1306 _ A13.out).mono ?_
             rintro e w' ⟨rfl,⟨nd,rfl⟩⟩
             refine ⟨_,rfl,?_⟩
             refine hK.out _ _ trivial (fun hHeld => ?_)
             clear hK K
             refine norm_ (a' := ?_) ?_ ?_
             rotate_left
             ·show Act.put _ (some 23) _ = _
              simp only [Act.put,p1_,p2_,p3_,i64_w,i32_w]
              rfl
             refine zon 11 (N := some 29) HT_ (fun K hK => ?_)
             refine zgo Tryd.func169 #[.string (a0.extract 4 6)] ?_
             with_reducible refine (spec_l02Of.calls kj1 (a0.extract 4 6) t1307 _ A18.out).mono ?_
             rintro e w' ⟨rfl,⟨nd,rfl⟩⟩
             refine ⟨_,rfl,?_⟩
             refine hK.out _ _ trivial (fun hHeld => ?_)
             clear hK K
             refine norm_ (a' := ?_) ?_ ?_
             rotate_left
             ·show Act.put _ (some 29) _ = _
              simp only [Act.put,p1_,p2_,p3_,i64_w,i32_w]
              rfl
             refine zpu 14 (N := some 32) HT_ ?_
             exact norm_ (by simp only [putAll,Act.put,p1_,p2_,p3_]) (hCont (gb1308) _ ⟨(zk BK1305),(zk BK1308),GW1308.out,GE1308.out,NB1305_1308.out,NB1308_1305.out,(zl_ HB)⟩)
           rintro gb1308 w23 ⟨h0_,h1_,h2_,h3_,h4_,h5_,h6_⟩
           have n0_ : Aside0 (w23.heap[gb1305]? = some (.cells #[.int .i64 0,.int .i64 0,.int .i64 0,.int .i64 0,.string ⟨#[]⟩] 85 (0,0))) := ⟨h0_⟩
           have n1_ : Aside0 (w23.heap[gb1308]? = some (.cells #[.int .i64 0,.int .i64 0,.int .i64 0,.int .i64 0,.string ⟨#[]⟩] 85 (0,0))) := ⟨h1_⟩
           have n2_ : Aside0 (w.heap.size ≤ gb1308) := ⟨h2_⟩
           have n3_ : Aside0 (w.heap.size ≤ gb1308) := ⟨h3_⟩
           have n4_ : Aside0 (gb1305 ≠ gb1308) := ⟨h4_⟩
           have n5_ : Aside0 (gb1308 ≠ gb1305) := ⟨h5_⟩
           have n6_ : Aside0 (Below w.heap.size w w23) := ⟨h6_⟩
           clear BK1305
           clear HB
           clear h0_ h1_ h2_ h3_ h4_ h5_ h6_
           have BK1305 := n0_
           have BK1308 := n1_
           have GW1308 := n2_
           have GE1308 := n3_
           have NB1305_1308 := n4_
           have NB1308_1305 := n5_
           have HB := n6_
           clear n0_ n1_ n2_ n3_ n4_ n5_ n6_
           have hHeld := trivial
           refine norm_ (a' := ?_) ?_ ?_
           rotate_left
           ·simp only [putAll,Act.put,p1_,p2_,p3_]
            rfl
           refine zon 16 (N := none) HT_ (fun K hK => ?_)
           have hs24 : w23.cell? ⟨gb1308,0,none⟩ = some (.int .i64 0) := (blk_cell BK1308.out 0).trans rfl
           have hfs24 := blk_frozen BK1308.out 0
           have hns24_0 := NB1305_1308.out
           have hms24_0 := NB1308_1305.out
           have hs25 : w23.cell? ⟨gb1308,1,none⟩ = some (.int .i64 0) := (blk_cell BK1308.out 1).trans rfl
           have hfs25 := blk_frozen BK1308.out 1
           have hns25_0 := NB1305_1308.out
           have hms25_0 := NB1308_1305.out
           have hs26 : w23.cell? ⟨gb1308,2,none⟩ = some (.int .i64 0) := (blk_cell BK1308.out 2).trans rfl
           have hfs26 := blk_frozen BK1308.out 2
           have hns26_0 := NB1305_1308.out
           have hms26_0 := NB1308_1305.out
           have hs27 : w23.cell? ⟨gb1308,3,none⟩ = some (.int .i64 0) := (blk_cell BK1308.out 3).trans rfl
           have hfs27 := blk_frozen BK1308.out 3
           have hns27_0 := NB1305_1308.out
           have hms27_0 := NB1308_1305.out
           have hs28 : w23.cell? ⟨gb1308,4,none⟩ = some (.string ⟨#[]⟩) := (blk_cell BK1308.out 4).trans rfl
           have hfs28 := blk_frozen BK1308.out 4
           have hns28_0 := NB1305_1308.out
           have hms28_0 := NB1308_1305.out
           refine skip_ (w1 := ?_) (by rfl) rfl ?_ ?_
           rotate_left
           ·go_simp
            rfl
           refine hK.out _ _ trivial (fun hHeld => ?_)
           clear hK K
           refine done_ (done_of HT_.out (by kernel_rfl)) ?_
           try go_wp2
           have n0_ : Aside0 ((((((w23.setCell ⟨gb1308,0,none⟩ (.int .i64 (wrap64 (bt a0 0)))).setCell ⟨gb1308,1,none⟩ (.int .i64 t1306)).setCell ⟨gb1308,2,none⟩ (.int .i64 (wrap64 (bt a0 3)))).setCell ⟨gb1308,3,none⟩ (.int .i64 t1307)).setCell ⟨gb1308,4,none⟩ (.string (a0.extract 7 a0.size))).heap[gb1305]? = some (.cells #[.int .i64 0,.int .i64 0,.int .i64 0,.int .i64 0,.string ⟨#[]⟩] 85 (0,0))) := ⟨zq BK1305⟩
           have n1_ : Aside0 ((((((w23.setCell ⟨gb1308,0,none⟩ (.int .i64 (wrap64 (bt a0 0)))).setCell ⟨gb1308,1,none⟩ (.int .i64 t1306)).setCell ⟨gb1308,2,none⟩ (.int .i64 (wrap64 (bt a0 3)))).setCell ⟨gb1308,3,none⟩ (.int .i64 t1307)).setCell ⟨gb1308,4,none⟩ (.string (a0.extract 7 a0.size))).heap[gb1308]? = some (.cells #[.int .i64 (wrap64 (bt a0 0)),.int .i64 t1306,.int .i64 (wrap64 (bt a0 3)),.int .i64 t1307,.string (a0.extract 7 a0.size)] 85 (0,0))) := ⟨zq BK1308⟩
           have n2_ : Aside0 (Below w.heap.size w (((((w23.setCell ⟨gb1308,0,none⟩ (.int .i64 (wrap64 (bt a0 0)))).setCell ⟨gb1308,1,none⟩ (.int .i64 t1306)).setCell ⟨gb1308,2,none⟩ (.int .i64 (wrap64 (bt a0 3)))).setCell ⟨gb1308,3,none⟩ (.int .i64 t1307)).setCell ⟨gb1308,4,none⟩ (.string (a0.extract 7 a0.size)))) := ⟨zl_ HB⟩
           (try clear BK1305)
           (try clear BK1308)
           (try clear HB)
           generalize (((((w23.setCell ⟨gb1308,0,none⟩ (.int .i64 (wrap64 (bt a0 0)))).setCell ⟨gb1308,1,none⟩ (.int .i64 t1306)).setCell ⟨gb1308,2,none⟩ (.int .i64 (wrap64 (bt a0 3)))).setCell ⟨gb1308,3,none⟩ (.int .i64 t1307)).setCell ⟨gb1308,4,none⟩ (.string (a0.extract 7 a0.size))) = w29 at n0_ n1_ n2_ ⊢
           have BK1305 := n0_
           have BK1308 := n1_
           have HB := n2_
           clear n0_ n1_ n2_
           replace BK1305 := am_ (blk_drew BK1305.out)
           replace BK1308 := am_ (blk_drew BK1308.out)
           replace HB := am_ (below_drew1 HB.out)
           refine start_ (n := 5) (S := fun w' => w'.cell? ⟨gb1308,0,none⟩ = some (.int .i64 (wrap64 (bt a0 0))) ∧ w'.cell? ⟨gb1308,1,none⟩ = some (.int .i64 t1306) ∧ w'.cell? ⟨gb1308,2,none⟩ = some (.int .i64 (wrap64 (bt a0 3))) ∧ w'.cell? ⟨gb1308,3,none⟩ = some (.int .i64 t1307) ∧ w'.cell? ⟨gb1308,4,none⟩ = some (.string (a0.extract 7 a0.size))) (ds := []) #[false,false,false,false,false] (by kernel_rfl) rfl rfl ⟨(blk_cell BK1308.out 0).trans rfl,(blk_cell BK1308.out 1).trans rfl,(blk_cell BK1308.out 2).trans rfl,(blk_cell BK1308.out 3).trans rfl,(blk_cell BK1308.out 4).trans rfl⟩ (fun hHeld => ?_)
           generalize w29.drew = w30 at BK1305 BK1308 HB hHeld ⊢
           refine take_ (i := 0) (N := some 33) (v := ?_) (a' := ?_) #[true,false,false,false,false] rfl rfl (by kernel_rfl) (fun _ _ _ h => h) (Or.inl ⟨by rfl,?_⟩) hHeld ?_ ?_
           rotate_left
           ·rintro w' ⟨s0,s1,s2,s3,s4⟩
            go_simp
            with_reducible rfl
           rotate_left
           ·simp only [Act.put,p1_,p2_,p3_,i64_w,i32_w]
            rfl
           refine take_ (i := 1) (N := some 34) (v := ?_) (a' := ?_) #[true,true,false,false,false] rfl rfl (by kernel_rfl) (fun _ _ _ h => h) (Or.inl ⟨by rfl,?_⟩) hHeld ?_ ?_
           rotate_left
           ·rintro w' ⟨s0,s1,s2,s3,s4⟩
            go_simp
            with_reducible rfl
           rotate_left
           ·simp only [Act.put,p1_,p2_,p3_,i64_w,i32_w]
            rfl
           refine one_ (i := 2) (N := some 35) #[true,true,true,false,false] rfl rfl (by kernel_rfl) (by decide) (fun K hK => ?_)
           refine zgo Tryd.func96 #[.agg #[.int .i64 (wrap64 (bt a0 0)),.int .i64 t1306,.int .i64 (wrap64 (bt a0 3)),.int .i64 t1307,.string (a0.extract 7 a0.size)]] ?_
           with_reducible refine (spec_RequestOK.calls kj1 (wrap64 (bt a0 0)) t1306 (wrap64 (bt a0 3)) t1307 (a0.extract 7 a0.size) t1309 _ A20.out).mono ?_
           rintro e w31 ⟨rfl,hb⟩
           refine ⟨_,rfl,?_⟩
           replace BK1305 := zb BK1305 hb
           replace BK1308 := zb BK1308 hb
           replace HB := zs_ HB hb
           (try clear hb)
           (try clear hb2)
           (try clear hk)
           (try clear hi)
           refine hK.out _ _ ⟨(blk_cell BK1308.out 0).trans rfl,(blk_cell BK1308.out 1).trans rfl,(blk_cell BK1308.out 2).trans rfl,(blk_cell BK1308.out 3).trans rfl,(blk_cell BK1308.out 4).trans rfl⟩ (fun hHeld => ?_)
           clear hK K
           refine norm_ (a' := ?_) ?_ ?_
           rotate_left
           ·show Act.put _ (some 35) _ = _
            simp only [Act.put,p1_,p2_,p3_,i64_w,i32_w]
            rfl
           refine one_ (i := 3) (N := none) #[true,true,true,true,false] rfl rfl (by kernel_rfl) (by decide) (fun K hK => ?_)
           have hs32 : w31.cell? ⟨gb1305,0,none⟩ = some (.int .i64 0) := (blk_cell BK1305.out 0).trans rfl
           have hfs32 := blk_frozen BK1305.out 0
           have hns32_1 := NB1308_1305.out
           have hms32_1 := NB1305_1308.out
           have hs33 : w31.cell? ⟨gb1305,1,none⟩ = some (.int .i64 0) := (blk_cell BK1305.out 1).trans rfl
           have hfs33 := blk_frozen BK1305.out 1
           have hns33_1 := NB1308_1305.out
           have hms33_1 := NB1305_1308.out
           have hs34 : w31.cell? ⟨gb1305,2,none⟩ = some (.int .i64 0) := (blk_cell BK1305.out 2).trans rfl
           have hfs34 := blk_frozen BK1305.out 2
           have hns34_1 := NB1308_1305.out
           have hms34_1 := NB1305_1308.out
           have hs35 : w31.cell? ⟨gb1305,3,none⟩ = some (.int .i64 0) := (blk_cell BK1305.out 3).trans rfl
           have hfs35 := blk_frozen BK1305.out 3
           have hns35_1 := NB1308_1305.out
           have hms35_1 := NB1305_1308.out
           have hs36 : w31.cell? ⟨gb1305,4,none⟩ = some (.string ⟨#[]⟩) := (blk_cell BK1305.out 4).trans rfl
           have hfs36 := blk_frozen BK1305.out 4
           have hns36_1 := NB1308_1305.out
           have hms36_1 := NB1305_1308.out
           refine skip_ (w1 := ?_) (by rfl) rfl ?_ ?_
           rotate_left
           ·go_simp
            rfl
           refine hK.out _ _ ⟨((cell_far (p := ⟨gb1305,_,none⟩) NB1308_1305.out _).trans (((cell_far (p := ⟨gb1305,_,none⟩) NB1308_1305.out _).trans (((cell_far (p := ⟨gb1305,_,none⟩) NB1308_1305.out _).trans (((cell_far (p := ⟨gb1305,_,none⟩) NB1308_1305.out _).trans (((cell_far (p := ⟨gb1305,_,none⟩) NB1308_1305.out _).trans (hHeld.1)))))))))),((cell_far (p := ⟨gb1305,_,none⟩) NB1308_1305.out _).trans (((cell_far (p := ⟨gb1305,_,none⟩) NB1308_1305.out _).trans (((cell_far (p := ⟨gb1305,_,none⟩) NB1308_1305.out _).trans (((cell_far (p := ⟨gb1305,_,none⟩) NB1308_1305.out _).trans (((cell_far (p := ⟨gb1305,_,none⟩) NB1308_1305.out _).trans (hHeld.2.1)))))))))),((cell_far (p := ⟨gb1305,_,none⟩) NB1308_1305.out _).trans (((cell_far (p := ⟨gb1305,_,none⟩) NB1308_1305.out _).trans (((cell_far (p := ⟨gb1305,_,none⟩) NB1308_1305.out _).trans (((cell_far (p := ⟨gb1305,_,none⟩) NB1308_1305.out _).trans (((cell_far (p := ⟨gb1305,_,none⟩) NB1308_1305.out _).trans (hHeld.2.2.1)))))))))),((cell_far (p := ⟨gb1305,_,none⟩) NB1308_1305.out _).trans (((cell_far (p := ⟨gb1305,_,none⟩) NB1308_1305.out _).trans (((cell_far (p := ⟨gb1305,_,none⟩) NB1308_1305.out _).trans (((cell_far (p := ⟨gb1305,_,none⟩) NB1308_1305.out _).trans (((cell_far (p := ⟨gb1305,_,none⟩) NB1308_1305.out _).trans (hHeld.2.2.2.1)))))))))),((cell_far (p := ⟨gb1305,_,none⟩) NB1308_1305.out _).trans (((cell_far (p := ⟨gb1305,_,none⟩) NB1308_1305.out _).trans (((cell_far (p := ⟨gb1305,_,none⟩) NB1308_1305.out _).trans (((cell_far (p := ⟨gb1305,_,none⟩) NB1308_1305.out _).trans (((cell_far (p := ⟨gb1305,_,none⟩) NB1308_1305.out _).trans (hHeld.2.2.2.2))))))))))⟩ (fun hHeld => ?_)
           clear hK K
           refine pure_ (i := 4) (N := some 3) (v := ?_) (a' := ?_) #[true,true,true,true,true] rfl rfl (by kernel_rfl) (fun _ _ _ h => h) (Or.inl ⟨by rfl,?_⟩) ?_ ?_
           rotate_left
           ·intro w'
            go_simp
            with_reducible rfl
           rotate_left
           ·simp only [Act.put,p1_,p2_,p3_,i64_w,i32_w]
            rfl
           refine done_ (by kernel_rfl) ?_
           try go_wp2
           refine bodyPost_ret (results_ct rfl _ _ gb1305 85 #[.int .i64 (wrap64 (bt a0 0)),.int .i64 t1306,.int .i64 (wrap64 (bt a0 3)),.int .i64 t1307,.string (a0.extract 7 a0.size)] (0,0) _ rfl (zq BK1305) Tryd.underlying85 rfl (by kernel_rfl)) rfl ?_
           exact ⟨zt_,zl_ HB⟩
          ·rw [if_neg c19] at H
           exact absurd H (by simp)
         ·rw [if_neg c17] at H
          exact absurd H (by simp)
        ·rw [if_neg c16] at H
         exact absurd H (by simp)
       ·rw [if_neg c14] at H
        exact absurd H (by simp)
      ·rw [if_neg c12] at H
       exact absurd H (by simp)
     ·rw [if_neg c11] at H
      exact absurd H (by simp)
    ·rw [if_neg c9] at H
     exact absurd H (by simp)
end Go.Proofs.YtlifdodphkimpaaDoor.C
end
