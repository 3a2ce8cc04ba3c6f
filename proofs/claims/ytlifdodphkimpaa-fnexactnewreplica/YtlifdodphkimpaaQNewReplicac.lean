/- A part of the proof that FnExactNewReplica returns true at every input: plain functions, contracts and lemmas. No conditions. -/
import Derived.Test.YtlifdodphkimpaaQNewReplicab
set_option linter.unusedVariables false
set_option linter.unusedSimpArgs false
set_option linter.unusedSectionVars false
section
namespace Go.Proofs.Ytlifdodphkimpaa.A
open Go.RowKit Go.Proofs.YtlifdodphkimpaaW.PrintWords Go.Proofs.YtlifdodphkimpaaW.PrintLast Go.Proofs.YtlifdodphkimpaaW.PrintMore
attribute [local go_sem] max2_int min2_int max_two min_two max_three min_three max_four min_four
set_option maxHeartbeats 8000000 in
set_option maxRecDepth 100000 in
theorem laws_eqCert.calls (k : Nat) (a0_0 : ByteArray) (A0_1 : Option Addr) (c0_1 : Nat) (l0_1 : List (S55)) (a1_0 : ByteArray) (A1_1 : Option Addr) (c1_1 : Nat) (l1_1 : List (S55)) (r : Bool) (w : World) (hr0_1 : Kd.C k55 w A0_1 l0_1.length l0_1) (hc0_1 : l0_1.length ≤ c0_1) (hr1_1 : Kd.C k55 w A1_1 l1_1.length l1_1) (hc1_1 : l1_1.length ≤ c1_1) (h : laws_eqCert.f k a0_0 l0_1 a1_0 l1_1 = some r) :
  Calls Try.prog 29 #[.agg #[.string a0_0,.slice A0_1 l0_1.length c0_1],.agg #[.string a1_0,.slice A1_1 l1_1.length c1_1]] w fun e w' => e = .returned (.bool r) ∧ Below w.heap.size w w' := by
 have hu46 := Try.underlying46
 have HR0_1 := am_ hr0_1
 have HC0_1 := am_ hc0_1
 clear hr0_1 hc0_1
 have HR1_1 := am_ hr1_1
 have HC1_1 := am_ hc1_1
 clear hr1_1 hc1_1
 have HB := am_ (Below.refl w.heap.size w)
 have H : (if a0_0.toList = a1_0.toList then ((laws_eqMessageS.f k l0_1 l1_1).bind fun t177 => (if t177 = true then (some true) else (some false))) else (some false)) = some r := h
 clear h
 by_cases c3 : a0_0.toList = a1_0.toList
 ·rw [if_pos c3] at H
  have c3b0 : (a0_0.toList == a1_0.toList) = true := beq_iff_eq.mpr c3
  have c3b1 : (a0_0.toList != a1_0.toList) = false := bne_eq_false_iff_eq.mpr c3
  clear c3
  replace H := Option.bind_eq_some_iff.mp H
  obtain ⟨t177,A40,H⟩ := H
  try dsimp only at H
  have A4 := am_ A40
  clear A40
  by_cases c5 : t177 = true
  ·subst c5
   have H1 : (some true) = some r := by rw [if_pos rfl] at H;exact H
   clear H
   have H := H1
   clear H1
   obtain rfl := Option.some.inj H
   go_enter Try.func29,Try.ntmps29
   go_wp2_with (first | ((with_reducible refine gate_dst (N := 2) rfl ?_);refine zbx (N := 2) (cs := #[.string a0_0,.slice A0_1 l0_1.length c0_1]) (t := 46) ?_;intro gb175 hg w6 hbox hb;have BK175 := am_ (hbox);have GW175 := zw_ HB hg;have GE175 := zw_ HB hg;replace HB := zs_ HB hb;clear hb hbox hg) | ((with_reducible refine gate_dst (N := 3) rfl ?_);refine zbx (N := 3) (cs := #[.string a1_0,.slice A1_1 l1_1.length c1_1]) (t := 46) ?_;intro gb176 hg w7 hbox hb;have BK176 := am_ (hbox);have GW176 := zw_ HB hg;have GE176 := zw_ HB hg;replace HB := zs_ HB hb;have NB175_176 := zl hg BK175;have NB176_175 := zg hg BK175;replace BK175 := zb BK175 hb;clear hb hbox hg;have hnb8 := NB175_176.out;have hnc8 := NB176_175.out;obtain ⟨hcz9_0,hcz9_1,hfz9_0,hfz9_1⟩ := zc2 BK175;obtain ⟨hcz10_0,hcz10_1,hfz10_0,hfz10_1⟩ := zc2 BK176) | ((with_reducible refine gate_callee (f := 17) rfl ?_);refine zgl (some 14) Try.func17 #[.slice A0_1 l0_1.length c0_1,.slice A1_1 l1_1.length c1_1] ?_;(with_reducible refine (laws_eqMessageS.calls k _ _ l0_1 _ _ l1_1 true _ ?side1 ?side2 ?side3 ?side4 A4.out).mono ?_);(case side1 => exact zc_ HR0_1 HB);(case side2 => exact HC0_1.out);(case side3 => exact zc_ HR1_1 HB);(case side4 => exact HC1_1.out);rintro e w11 ⟨rfl,hb⟩;refine ⟨_,rfl,?_⟩;replace BK175 := zb BK175 hb;replace BK176 := zb BK176 hb;replace HB := zs_ HB hb;(try clear hb);(try clear hb2);(try clear hk);(try clear hi)))
   go_ret
   exact ⟨zt_,zl_ HB⟩
  ·replace c5 := Bool.eq_false_iff.mpr c5
   subst c5
   have H1 : (some false) = some r := by rw [if_neg (show ¬ (false = true) by decide)] at H;exact H
   clear H
   have H := H1
   clear H1
   obtain rfl := Option.some.inj H
   go_enter Try.func29,Try.ntmps29
   go_wp2_with (first | ((with_reducible refine gate_dst (N := 2) rfl ?_);refine zbx (N := 2) (cs := #[.string a0_0,.slice A0_1 l0_1.length c0_1]) (t := 46) ?_;intro gb175 hg w12 hbox hb;have BK175 := am_ (hbox);have GW175 := zw_ HB hg;have GE175 := zw_ HB hg;replace HB := zs_ HB hb;clear hb hbox hg) | ((with_reducible refine gate_dst (N := 3) rfl ?_);refine zbx (N := 3) (cs := #[.string a1_0,.slice A1_1 l1_1.length c1_1]) (t := 46) ?_;intro gb176 hg w13 hbox hb;have BK176 := am_ (hbox);have GW176 := zw_ HB hg;have GE176 := zw_ HB hg;replace HB := zs_ HB hb;have NB175_176 := zl hg BK175;have NB176_175 := zg hg BK175;replace BK175 := zb BK175 hb;clear hb hbox hg;have hnb14 := NB175_176.out;have hnc14 := NB176_175.out;obtain ⟨hcz15_0,hcz15_1,hfz15_0,hfz15_1⟩ := zc2 BK175;obtain ⟨hcz16_0,hcz16_1,hfz16_0,hfz16_1⟩ := zc2 BK176) | ((with_reducible refine gate_callee (f := 17) rfl ?_);refine zgl (some 14) Try.func17 #[.slice A0_1 l0_1.length c0_1,.slice A1_1 l1_1.length c1_1] ?_;(with_reducible refine (laws_eqMessageS.calls k _ _ l0_1 _ _ l1_1 false _ ?side1 ?side2 ?side3 ?side4 A4.out).mono ?_);(case side1 => exact zc_ HR0_1 HB);(case side2 => exact HC0_1.out);(case side3 => exact zc_ HR1_1 HB);(case side4 => exact HC1_1.out);rintro e w17 ⟨rfl,hb⟩;refine ⟨_,rfl,?_⟩;replace HB := zs_ HB hb;(try clear hb);(try clear hb2);(try clear hk);(try clear hi)))
   go_ret
   exact ⟨zt_,zl_ HB⟩
 ·rw [if_neg c3] at H
  have c3b0 : (a0_0.toList == a1_0.toList) = false := beq_eq_false_iff_ne.mpr c3
  have c3b1 : (a0_0.toList != a1_0.toList) = true := bne_iff_ne.mpr c3
  obtain rfl := Option.some.inj H
  go_enter Try.func29,Try.ntmps29
  go_wp2_with (first | ((with_reducible refine gate_dst (N := 2) rfl ?_);refine zbx (N := 2) (cs := #[.string a0_0,.slice A0_1 l0_1.length c0_1]) (t := 46) ?_;intro gb175 hg w18 hbox hb;have BK175 := am_ (hbox);have GW175 := zw_ HB hg;have GE175 := zw_ HB hg;replace HB := zs_ HB hb;clear hb hbox hg) | ((with_reducible refine gate_dst (N := 3) rfl ?_);refine zbx (N := 3) (cs := #[.string a1_0,.slice A1_1 l1_1.length c1_1]) (t := 46) ?_;intro gb176 hg w19 hbox hb;have BK176 := am_ (hbox);have GW176 := zw_ HB hg;have GE176 := zw_ HB hg;replace HB := zs_ HB hb;have NB175_176 := zl hg BK175;have NB176_175 := zg hg BK175;replace BK175 := zb BK175 hb;clear hb hbox hg;have hnb20 := NB175_176.out;have hnc20 := NB176_175.out;obtain ⟨hcz21_0,hcz21_1,hfz21_0,hfz21_1⟩ := zc2 BK175;obtain ⟨hcz22_0,hcz22_1,hfz22_0,hfz22_1⟩ := zc2 BK176))
  go_ret
  exact ⟨zt_,zl_ HB⟩
def laws_eqCertS.T6 : Bool × List (List Nat × List Nat) := (true,[([],[]),([],[]),([0,1],[0,1]),([2],[2]),([],[]),([],[]),([4,5],[4,5]),([6],[6]),([3,7],[3,7]),([8],[8])])
def laws_eqCertS.B6 : List Nat := [0,0,3,7,0,0,48,112,255,511]
theorem laws_eqCertS.tab6 : rtab .any (opsOf Try.f15 6) = laws_eqCertS.T6 := by kernel_rfl
theorem laws_eqCertS.bits6 : waitsOk laws_eqCertS.T6.2 laws_eqCertS.B6 = true := by kernel_rfl
set_option maxHeartbeats 8000000 in
set_option maxRecDepth 100000 in
theorem laws_eqCertS.calls (k : Nat) (A0 : Option Addr) (c0 : Nat) (l0 : List (S46)) (A1 : Option Addr) (c1 : Nat) (l1 : List (S46)) (r : Bool) (w : World) (hr0 : Kd.C k46 w A0 l0.length l0) (hc0 : l0.length ≤ c0) (hr1 : Kd.C k46 w A1 l1.length l1) (hc1 : l1.length ≤ c1) (h : laws_eqCertS.f k l0 l1 = some r) :
  Calls Try.prog 15 #[.slice A0 l0.length c0,.slice A1 l1.length c1] w fun e w' => e = .returned (.bool r) ∧ Below w.heap.size w w' := by
 have hu46 := Try.underlying46
 have HR0 := am_ hr0
 have HC0 := am_ hc0
 clear hr0 hc0
 have HR1 := am_ hr1
 have HC1 := am_ hc1
 clear hr1 hc1
 have HB := am_ (Below.refl w.heap.size w)
 have H : (if (l0.length : Int) = (l1.length : Int) then (laws_eqCertS.l0 k l0 l1 0) else (some false)) = some r := h
 clear h
 by_cases c3 : (l0.length : Int) = (l1.length : Int)
 ·rw [if_pos c3] at H
  have c3b0 : ((l0.length : Int) == (l1.length : Int)) = true := beq_iff_eq.mpr c3
  have c3b1 : ((l0.length : Int) != (l1.length : Int)) = false := bne_eq_false_iff_eq.mpr c3
  have c3b2 : (l0.length == l1.length) = true := by first | simpa using c3 | (simp at c3 ⊢;omega)
  clear c3
  have H' := am_ H
  clear H
  go_enter Try.func15,Try.ntmps15
  go_wp2
  go_loopg [5] k (fun kq v5 w' => ∃ (x5_1 : Int),v5 = .int .i64 x5_1 ∧ Aside0 (laws_eqCertS.l0 kq l0 l1 x5_1 = some r) ∧ Aside0 (kq ≤ k) ∧ Aside0 (Below w.heap.size w w'))
  case atStart => exact ⟨(0),(by first | rfl | (simp;done) | (simp [*];done)),H',⟨Nat.le_refl _⟩,⟨zl_ HB⟩⟩
  case round =>
   clear H'
   try clear c1
   try clear p2
   try clear c3
   try clear c3b0
   try clear c3b1
   try clear c3b2
   obtain ⟨x5_1,rfl,HA,HK1,HB⟩ := hrel
   cases gk with
   | zero => exact absurd HA.out (by simp [laws_eqCertS.l0])
   | succ k1 =>
    have H := HA.out
    clear HA
    simp only [laws_eqCertS.l0] at H
    by_cases c4 : x5_1 < (l0.length : Int)
    ·rw [if_pos c4] at H
     have c4b0 : decide (x5_1 < (l0.length : Int)) = true := decide_eq_true c4
     clear c4
     by_cases c5 : 0 ≤ x5_1
     ·rw [if_pos c5] at H
      have c5b0 : decide (0 ≤ x5_1) = true := decide_eq_true c5
      clear c5
      by_cases c6 : x5_1 < (l1.length : Int)
      ·rw [if_pos c6] at H
       have c6b0 : decide (x5_1 < (l1.length : Int)) = true := decide_eq_true c6
       clear c6
       replace H := Option.bind_eq_some_iff.mp H
       obtain ⟨t180,A70,H⟩ := H
       try dsimp only at H
       have A7 := am_ A70
       clear A70
       by_cases c8 : t180 = true
       ·subst c8
        have H1 : (laws_eqCertS.l0 k1 l0 l1 (wrap64 (x5_1 + 1))) = some r := by rw [if_pos rfl] at H;exact H
        clear H
        have H := H1
        clear H1
        have H' := am_ H
        clear H
        try go_wp2
        replace HB := am_ (below_drew1 HB.out)
        have p178 : 0 ≤ (x5_1 : Int) := zo_
        have q178 : x5_1 < (l0.length : Int) := zo_
        obtain ⟨ad178,A178_1,c178_1,e178,hx178_0,hx178_1,hl178_1,hi178_1⟩ := at_T46 HR0.out x5_1 p178 q178
        have hw178_1 := hx178_1
        have hw178_0 := hx178_0
        have hv178_1 := hx178_1
        cases e178
        replace hx178_0 := zx_ HB hx178_0
        replace hx178_1 := zx_ HB hx178_1
        have HR178_1 := am_ hi178_1
        have HC178_1 := am_ hl178_1
        clear hi178_1 hl178_1
        replace p178 := eq_true p178
        replace q178 := eq_true q178
        have p179 : 0 ≤ (x5_1 : Int) := zo_
        have q179 : x5_1 < (l1.length : Int) := zo_
        obtain ⟨ad179,A179_1,c179_1,e179,hx179_0,hx179_1,hl179_1,hi179_1⟩ := at_T46 HR1.out x5_1 p179 q179
        have hw179_1 := hx179_1
        have hw179_0 := hx179_0
        have hv179_1 := hx179_1
        cases e179
        replace hx179_0 := zx_ HB hx179_0
        replace hx179_1 := zx_ HB hx179_1
        have HR179_1 := am_ hi179_1
        have HC179_1 := am_ hl179_1
        clear hi179_1 hl179_1
        replace p179 := eq_true p179
        replace q179 := eq_true q179
        refine start_ (n := 10) (S := fun w' => w'.cell? (ad178.add ((x5_1).toNat * 2)) = some (.string ((rd_T46 l0 x5_1).f0)) ∧ w'.cell? ⟨(ad178.add ((x5_1).toNat * 2)).block,(ad178.add ((x5_1).toNat * 2)).off + 1,none⟩ = some (.slice A178_1 ((rd_T46 l0 x5_1).f1).length c178_1) ∧ w'.cell? (ad179.add ((x5_1).toNat * 2)) = some (.string ((rd_T46 l1 x5_1).f0)) ∧ w'.cell? ⟨(ad179.add ((x5_1).toNat * 2)).block,(ad179.add ((x5_1).toNat * 2)).off + 1,none⟩ = some (.slice A179_1 ((rd_T46 l1 x5_1).f1).length c179_1)) (ds := []) #[false,false,false,false,false,false,false,false,false,false] (by kernel_rfl) rfl rfl ⟨(zx_ HB hw178_0),(zx_ HB hw178_1),(zx_ HB hw179_0),(zx_ HB hw179_1)⟩ (fun hHeld => ?_);refine with_tabW laws_eqCertS.tab6 laws_eqCertS.bits6 (fun HT_ HW_ => ?_)
        generalize wr.drew = w9 at HB HR178_1 HR179_1 hx178_0 hx178_1 hx179_0 hx179_1 hHeld ⊢
        refine zpu 0 (N := some 17) HT_ ?_
        refine zpu 1 (N := some 18) HT_ ?_
        refine zpu 2 (N := some 19) HT_ ?_
        refine zpu 4 (N := some 21) HT_ ?_
        refine zpu 5 (N := some 22) HT_ ?_
        refine zpu 6 (N := some 23) HT_ ?_
        refine ztk 3 (N := some 20) HT_ HW_ hHeld ?_
        refine ztk 7 (N := some 24) HT_ HW_ hHeld ?_
        refine zon 8 (N := some 25) HT_ (fun K hK => ?_)
        refine zgo Try.func29 #[.agg #[.string ((rd_T46 l0 x5_1).f0),.slice A178_1 ((rd_T46 l0 x5_1).f1).length c178_1],.agg #[.string ((rd_T46 l1 x5_1).f0),.slice A179_1 ((rd_T46 l1 x5_1).f1).length c179_1]] ?_
        with_reducible refine (laws_eqCert.calls k1 ((rd_T46 l0 x5_1).f0) _ _ ((rd_T46 l0 x5_1).f1) ((rd_T46 l1 x5_1).f0) _ _ ((rd_T46 l1 x5_1).f1) true _ ?side1 ?side2 ?side3 ?side4 A7.out).mono ?_
        (case side1 => exact zc_ HR178_1 HB)
        (case side2 => exact HC178_1.out)
        (case side3 => exact zc_ HR179_1 HB)
        (case side4 => exact HC179_1.out)
        rintro e w10 ⟨rfl,hb⟩
        refine ⟨_,rfl,?_⟩
        replace HB := zs_ HB hb
        (try clear hb)
        (try clear hb2)
        (try clear hk)
        (try clear hi)
        refine hK.out _ _ ⟨(zx_ HB hw178_0),(zx_ HB hw178_1),(zx_ HB hw179_0),(zx_ HB hw179_1)⟩ (fun hHeld => ?_)
        clear hK K
        refine norm_ (a' := ?_) ?_ ?_
        rotate_left
        ·show Act.put _ (some 25) _ = _
         simp only [Act.put,p1_,p2_,p3_,i64_w,i32_w]
         rfl
        refine zpu 9 (N := some 26) HT_ ?_
        refine done_ (done_of HT_.out (by kernel_rfl)) ?_
        try go_wp2
        go_roundg k1
        case measure => have := HK1.out;omega
        case rel => exact ⟨(wrap64 (x5_1 + 1)),(by first | rfl | (simp;done) | (simp [*];done)),H',⟨by have := HK1.out;omega⟩,⟨zl_ HB⟩⟩
       ·replace c8 := Bool.eq_false_iff.mpr c8
        subst c8
        have H1 : (some false) = some r := by rw [if_neg (show ¬ (false = true) by decide)] at H;exact H
        clear H
        have H := H1
        clear H1
        obtain rfl := Option.some.inj H
        try go_wp2
        replace HB := am_ (below_drew1 HB.out)
        have p178 : 0 ≤ (x5_1 : Int) := zo_
        have q178 : x5_1 < (l0.length : Int) := zo_
        obtain ⟨ad178,A178_1,c178_1,e178,hx178_0,hx178_1,hl178_1,hi178_1⟩ := at_T46 HR0.out x5_1 p178 q178
        have hw178_1 := hx178_1
        have hw178_0 := hx178_0
        have hv178_1 := hx178_1
        cases e178
        replace hx178_0 := zx_ HB hx178_0
        replace hx178_1 := zx_ HB hx178_1
        have HR178_1 := am_ hi178_1
        have HC178_1 := am_ hl178_1
        clear hi178_1 hl178_1
        replace p178 := eq_true p178
        replace q178 := eq_true q178
        have p179 : 0 ≤ (x5_1 : Int) := zo_
        have q179 : x5_1 < (l1.length : Int) := zo_
        obtain ⟨ad179,A179_1,c179_1,e179,hx179_0,hx179_1,hl179_1,hi179_1⟩ := at_T46 HR1.out x5_1 p179 q179
        have hw179_1 := hx179_1
        have hw179_0 := hx179_0
        have hv179_1 := hx179_1
        cases e179
        replace hx179_0 := zx_ HB hx179_0
        replace hx179_1 := zx_ HB hx179_1
        have HR179_1 := am_ hi179_1
        have HC179_1 := am_ hl179_1
        clear hi179_1 hl179_1
        replace p179 := eq_true p179
        replace q179 := eq_true q179
        refine start_ (n := 10) (S := fun w' => w'.cell? (ad178.add ((x5_1).toNat * 2)) = some (.string ((rd_T46 l0 x5_1).f0)) ∧ w'.cell? ⟨(ad178.add ((x5_1).toNat * 2)).block,(ad178.add ((x5_1).toNat * 2)).off + 1,none⟩ = some (.slice A178_1 ((rd_T46 l0 x5_1).f1).length c178_1) ∧ w'.cell? (ad179.add ((x5_1).toNat * 2)) = some (.string ((rd_T46 l1 x5_1).f0)) ∧ w'.cell? ⟨(ad179.add ((x5_1).toNat * 2)).block,(ad179.add ((x5_1).toNat * 2)).off + 1,none⟩ = some (.slice A179_1 ((rd_T46 l1 x5_1).f1).length c179_1)) (ds := []) #[false,false,false,false,false,false,false,false,false,false] (by kernel_rfl) rfl rfl ⟨(zx_ HB hw178_0),(zx_ HB hw178_1),(zx_ HB hw179_0),(zx_ HB hw179_1)⟩ (fun hHeld => ?_);refine with_tabW laws_eqCertS.tab6 laws_eqCertS.bits6 (fun HT_ HW_ => ?_)
        generalize wr.drew = w11 at HB HR178_1 HR179_1 hx178_0 hx178_1 hx179_0 hx179_1 hHeld ⊢
        refine zpu 0 (N := some 17) HT_ ?_
        refine zpu 1 (N := some 18) HT_ ?_
        refine zpu 2 (N := some 19) HT_ ?_
        refine zpu 4 (N := some 21) HT_ ?_
        refine zpu 5 (N := some 22) HT_ ?_
        refine zpu 6 (N := some 23) HT_ ?_
        refine ztk 3 (N := some 20) HT_ HW_ hHeld ?_
        refine ztk 7 (N := some 24) HT_ HW_ hHeld ?_
        refine zon 8 (N := some 25) HT_ (fun K hK => ?_)
        refine zgo Try.func29 #[.agg #[.string ((rd_T46 l0 x5_1).f0),.slice A178_1 ((rd_T46 l0 x5_1).f1).length c178_1],.agg #[.string ((rd_T46 l1 x5_1).f0),.slice A179_1 ((rd_T46 l1 x5_1).f1).length c179_1]] ?_
        with_reducible refine (laws_eqCert.calls k1 ((rd_T46 l0 x5_1).f0) _ _ ((rd_T46 l0 x5_1).f1) ((rd_T46 l1 x5_1).f0) _ _ ((rd_T46 l1 x5_1).f1) false _ ?side1 ?side2 ?side3 ?side4 A7.out).mono ?_
        (case side1 => exact zc_ HR178_1 HB)
        (case side2 => exact HC178_1.out)
        (case side3 => exact zc_ HR179_1 HB)
        (case side4 => exact HC179_1.out)
        rintro e w12 ⟨rfl,hb⟩
        refine ⟨_,rfl,?_⟩
        replace HB := zs_ HB hb
        (try clear hb)
        (try clear hb2)
        (try clear hk)
        (try clear hi)
        refine hK.out _ _ ⟨(zx_ HB hw178_0),(zx_ HB hw178_1),(zx_ HB hw179_0),(zx_ HB hw179_1)⟩ (fun hHeld => ?_)
        clear hK K
        refine norm_ (a' := ?_) ?_ ?_
        rotate_left
        ·show Act.put _ (some 25) _ = _
         simp only [Act.put,p1_,p2_,p3_,i64_w,i32_w]
         rfl
        refine zpu 9 (N := some 26) HT_ ?_
        refine done_ (done_of HT_.out (by kernel_rfl)) ?_
        try go_wp2
        go_ret
        exact ⟨zt_,zl_ HB⟩
      ·rw [if_neg c6] at H
       exact absurd H (by simp)
     ·rw [if_neg c5] at H
      exact absurd H (by simp)
    ·rw [if_neg c4] at H
     have c4b0 : decide (x5_1 < (l0.length : Int)) = false := decide_eq_false c4
     clear c4
     obtain rfl := Option.some.inj H
     go_wp2
     go_ret
     exact ⟨zt_,zl_ HB⟩
 ·rw [if_neg c3] at H
  have c3b0 : ((l0.length : Int) == (l1.length : Int)) = false := beq_eq_false_iff_ne.mpr c3
  have c3b1 : ((l0.length : Int) != (l1.length : Int)) = true := bne_iff_ne.mpr c3
  have c3b2 : (l0.length == l1.length) = false := by first | simpa using c3 | (simp at c3 ⊢;omega)
  obtain rfl := Option.some.inj H
  go_enter Try.func15,Try.ntmps15
  go_wp2
  go_ret
  exact ⟨zt_,zl_ HB⟩
set_option maxHeartbeats 8000000 in
set_option maxRecDepth 100000 in
theorem laws_eqSlot.calls (k : Nat) (a0_0 : ByteArray) (A0_1 : Option Addr) (c0_1 : Nat) (l0_1 : List (S55)) (A0_2 : Option Addr) (c0_2 : Nat) (l0_2 : List (S55)) (a0_3 : Bool) (a0_4 : Bool) (a1_0 : ByteArray) (A1_1 : Option Addr) (c1_1 : Nat) (l1_1 : List (S55)) (A1_2 : Option Addr) (c1_2 : Nat) (l1_2 : List (S55)) (a1_3 : Bool) (a1_4 : Bool) (r : Bool) (w : World) (hr0_1 : Kd.C k55 w A0_1 l0_1.length l0_1) (hc0_1 : l0_1.length ≤ c0_1) (hr0_2 : Kd.C k55 w A0_2 l0_2.length l0_2) (hc0_2 : l0_2.length ≤ c0_2) (hr1_1 : Kd.C k55 w A1_1 l1_1.length l1_1) (hc1_1 : l1_1.length ≤ c1_1) (hr1_2 : Kd.C k55 w A1_2 l1_2.length l1_2) (hc1_2 : l1_2.length ≤ c1_2) (h : laws_eqSlot.f k a0_0 l0_1 l0_2 a0_3 a0_4 a1_0 l1_1 l1_2 a1_3 a1_4 = some r) :
  Calls Try.prog 28 #[.agg #[.string a0_0,.slice A0_1 l0_1.length c0_1,.slice A0_2 l0_2.length c0_2,.bool a0_3,.bool a0_4],.agg #[.string a1_0,.slice A1_1 l1_1.length c1_1,.slice A1_2 l1_2.length c1_2,.bool a1_3,.bool a1_4]] w fun e w' => e = .returned (.bool r) ∧ Below w.heap.size w w' := by
 have hu51 := Try.underlying51
 have HR0_1 := am_ hr0_1
 have HC0_1 := am_ hc0_1
 clear hr0_1 hc0_1
 have HR0_2 := am_ hr0_2
 have HC0_2 := am_ hc0_2
 clear hr0_2 hc0_2
 have HR1_1 := am_ hr1_1
 have HC1_1 := am_ hc1_1
 clear hr1_1 hc1_1
 have HR1_2 := am_ hr1_2
 have HC1_2 := am_ hc1_2
 clear hr1_2 hc1_2
 have HB := am_ (Below.refl w.heap.size w)
 have H : (if a0_0.toList = a1_0.toList then ((laws_eqMessageS.f k l0_1 l1_1).bind fun t170 => (if t170 = true then ((laws_eqMessageS.f k l0_2 l1_2).bind fun t171 => (if t171 = true then (if (a0_3 != a1_3) = true then (some false) else (if (a0_4 != a1_4) = true then (some false) else (some true))) else (some false))) else (some false))) else (some false)) = some r := h
 clear h
 by_cases c3 : a0_0.toList = a1_0.toList
 ·rw [if_pos c3] at H
  have c3b0 : (a0_0.toList == a1_0.toList) = true := beq_iff_eq.mpr c3
  have c3b1 : (a0_0.toList != a1_0.toList) = false := bne_eq_false_iff_eq.mpr c3
  clear c3
  replace H := Option.bind_eq_some_iff.mp H
  obtain ⟨t170,A40,H⟩ := H
  try dsimp only at H
  have A4 := am_ A40
  clear A40
  by_cases c5 : t170 = true
  ·subst c5
   have H1 : ((laws_eqMessageS.f k l0_2 l1_2).bind fun t171 => (if t171 = true then (if (a0_3 != a1_3) = true then (some false) else (if (a0_4 != a1_4) = true then (some false) else (some true))) else (some false))) = some r := by rw [if_pos rfl] at H;exact H
   clear H
   have H := H1
   clear H1
   replace H := Option.bind_eq_some_iff.mp H
   obtain ⟨t171,A60,H⟩ := H
   try dsimp only at H
   have A6 := am_ A60
   clear A60
   by_cases c7 : t171 = true
   ·subst c7
    have H1 : (if (a0_3 != a1_3) = true then (some false) else (if (a0_4 != a1_4) = true then (some false) else (some true))) = some r := by rw [if_pos rfl] at H;exact H
    clear H
    have H := H1
    clear H1
    by_cases c8 : (a0_3 != a1_3) = true
    ·rw [if_pos c8] at H
     have c8b0 : (a0_3 != a1_3) = true := c8
     (try (have c8b1 : decide (a0_3 = a1_3) = false := by simpa using c8))
     (try (have c8b2 : (a0_3 == a1_3) = false := by simpa using c8))
     (try (have c8b3 : ¬ (a0_3 = a1_3) := by simpa using c8))
     clear c8
     obtain rfl := Option.some.inj H
     go_enter Try.func28,Try.ntmps28
     go_wp2_with (first | ((with_reducible refine gate_dst (N := 2) rfl ?_);refine zbx (N := 2) (cs := #[.string a0_0,.slice A0_1 l0_1.length c0_1,.slice A0_2 l0_2.length c0_2,.bool a0_3,.bool a0_4]) (t := 51) ?_;intro gb168 hg w9 hbox hb;have BK168 := am_ (hbox);have GW168 := zw_ HB hg;have GE168 := zw_ HB hg;replace HB := zs_ HB hb;clear hb hbox hg) | ((with_reducible refine gate_dst (N := 3) rfl ?_);refine zbx (N := 3) (cs := #[.string a1_0,.slice A1_1 l1_1.length c1_1,.slice A1_2 l1_2.length c1_2,.bool a1_3,.bool a1_4]) (t := 51) ?_;intro gb169 hg w10 hbox hb;have BK169 := am_ (hbox);have GW169 := zw_ HB hg;have GE169 := zw_ HB hg;replace HB := zs_ HB hb;have NB168_169 := zl hg BK168;have NB169_168 := zg hg BK168;replace BK168 := zb BK168 hb;clear hb hbox hg;have hnb11 := NB168_169.out;have hnc11 := NB169_168.out;obtain ⟨hcz12_0,hcz12_1,hcz12_2,hcz12_3,hcz12_4,hfz12_0,hfz12_1,hfz12_2,hfz12_3,hfz12_4⟩ := zc5 BK168;obtain ⟨hcz13_0,hcz13_1,hcz13_2,hcz13_3,hcz13_4,hfz13_0,hfz13_1,hfz13_2,hfz13_3,hfz13_4⟩ := zc5 BK169) | ((with_reducible refine gate_callee (f := 17) rfl ?_);refine zgl (some 14) Try.func17 #[.slice A0_1 l0_1.length c0_1,.slice A1_1 l1_1.length c1_1] ?_;(with_reducible refine (laws_eqMessageS.calls k _ _ l0_1 _ _ l1_1 true _ ?side1 ?side2 ?side3 ?side4 A4.out).mono ?_);(case side1 => exact zc_ HR0_1 HB);(case side2 => exact HC0_1.out);(case side3 => exact zc_ HR1_1 HB);(case side4 => exact HC1_1.out);rintro e w14 ⟨rfl,hb⟩;refine ⟨_,rfl,?_⟩;replace BK168 := zb BK168 hb;replace BK169 := zb BK169 hb;replace HB := zs_ HB hb;(try clear hb);(try clear hb2);(try clear hk);(try clear hi);obtain ⟨hcz15_0,hcz15_1,hcz15_2,hcz15_3,hcz15_4,hfz15_0,hfz15_1,hfz15_2,hfz15_3,hfz15_4⟩ := zc5 BK168;obtain ⟨hcz16_0,hcz16_1,hcz16_2,hcz16_3,hcz16_4,hfz16_0,hfz16_1,hfz16_2,hfz16_3,hfz16_4⟩ := zc5 BK169) | ((with_reducible refine gate_callee (f := 17) rfl ?_);refine zgl (some 20) Try.func17 #[.slice A0_2 l0_2.length c0_2,.slice A1_2 l1_2.length c1_2] ?_;(with_reducible refine (laws_eqMessageS.calls k _ _ l0_2 _ _ l1_2 true _ ?side1 ?side2 ?side3 ?side4 A6.out).mono ?_);(case side1 => exact zc_ HR0_2 HB);(case side2 => exact HC0_2.out);(case side3 => exact zc_ HR1_2 HB);(case side4 => exact HC1_2.out);rintro e w17 ⟨rfl,hb⟩;refine ⟨_,rfl,?_⟩;replace BK168 := zb BK168 hb;replace BK169 := zb BK169 hb;replace HB := zs_ HB hb;(try clear hb);(try clear hb2);(try clear hk);(try clear hi);obtain ⟨hcz18_0,hcz18_1,hcz18_2,hcz18_3,hcz18_4,hfz18_0,hfz18_1,hfz18_2,hfz18_3,hfz18_4⟩ := zc5 BK168;obtain ⟨hcz19_0,hcz19_1,hcz19_2,hcz19_3,hcz19_4,hfz19_0,hfz19_1,hfz19_2,hfz19_3,hfz19_4⟩ := zc5 BK169))
     go_ret
     exact ⟨zt_,zl_ HB⟩
    ·rw [if_neg c8] at H
     have c8b0 : (a0_3 != a1_3) = false := by simpa using c8
     (try (have c8b1 : decide (a0_3 = a1_3) = true := by simpa using c8))
     (try (have c8b2 : (a0_3 == a1_3) = true := by simpa using c8))
     clear c8
     by_cases c20 : (a0_4 != a1_4) = true
     ·rw [if_pos c20] at H
      have c20b0 : (a0_4 != a1_4) = true := c20
      (try (have c20b1 : decide (a0_4 = a1_4) = false := by simpa using c20))
      (try (have c20b2 : (a0_4 == a1_4) = false := by simpa using c20))
      (try (have c20b3 : ¬ (a0_4 = a1_4) := by simpa using c20))
      clear c20
      obtain rfl := Option.some.inj H
      go_enter Try.func28,Try.ntmps28
      go_wp2_with (first | ((with_reducible refine gate_dst (N := 2) rfl ?_);refine zbx (N := 2) (cs := #[.string a0_0,.slice A0_1 l0_1.length c0_1,.slice A0_2 l0_2.length c0_2,.bool a0_3,.bool a0_4]) (t := 51) ?_;intro gb168 hg w21 hbox hb;have BK168 := am_ (hbox);have GW168 := zw_ HB hg;have GE168 := zw_ HB hg;replace HB := zs_ HB hb;clear hb hbox hg) | ((with_reducible refine gate_dst (N := 3) rfl ?_);refine zbx (N := 3) (cs := #[.string a1_0,.slice A1_1 l1_1.length c1_1,.slice A1_2 l1_2.length c1_2,.bool a1_3,.bool a1_4]) (t := 51) ?_;intro gb169 hg w22 hbox hb;have BK169 := am_ (hbox);have GW169 := zw_ HB hg;have GE169 := zw_ HB hg;replace HB := zs_ HB hb;have NB168_169 := zl hg BK168;have NB169_168 := zg hg BK168;replace BK168 := zb BK168 hb;clear hb hbox hg;have hnb23 := NB168_169.out;have hnc23 := NB169_168.out;obtain ⟨hcz24_0,hcz24_1,hcz24_2,hcz24_3,hcz24_4,hfz24_0,hfz24_1,hfz24_2,hfz24_3,hfz24_4⟩ := zc5 BK168;obtain ⟨hcz25_0,hcz25_1,hcz25_2,hcz25_3,hcz25_4,hfz25_0,hfz25_1,hfz25_2,hfz25_3,hfz25_4⟩ := zc5 BK169) | ((with_reducible refine gate_callee (f := 17) rfl ?_);refine zgl (some 14) Try.func17 #[.slice A0_1 l0_1.length c0_1,.slice A1_1 l1_1.length c1_1] ?_;(with_reducible refine (laws_eqMessageS.calls k _ _ l0_1 _ _ l1_1 true _ ?side1 ?side2 ?side3 ?side4 A4.out).mono ?_);(case side1 => exact zc_ HR0_1 HB);(case side2 => exact HC0_1.out);(case side3 => exact zc_ HR1_1 HB);(case side4 => exact HC1_1.out);rintro e w26 ⟨rfl,hb⟩;refine ⟨_,rfl,?_⟩;replace BK168 := zb BK168 hb;replace BK169 := zb BK169 hb;replace HB := zs_ HB hb;(try clear hb);(try clear hb2);(try clear hk);(try clear hi);obtain ⟨hcz27_0,hcz27_1,hcz27_2,hcz27_3,hcz27_4,hfz27_0,hfz27_1,hfz27_2,hfz27_3,hfz27_4⟩ := zc5 BK168;obtain ⟨hcz28_0,hcz28_1,hcz28_2,hcz28_3,hcz28_4,hfz28_0,hfz28_1,hfz28_2,hfz28_3,hfz28_4⟩ := zc5 BK169) | ((with_reducible refine gate_callee (f := 17) rfl ?_);refine zgl (some 20) Try.func17 #[.slice A0_2 l0_2.length c0_2,.slice A1_2 l1_2.length c1_2] ?_;(with_reducible refine (laws_eqMessageS.calls k _ _ l0_2 _ _ l1_2 true _ ?side1 ?side2 ?side3 ?side4 A6.out).mono ?_);(case side1 => exact zc_ HR0_2 HB);(case side2 => exact HC0_2.out);(case side3 => exact zc_ HR1_2 HB);(case side4 => exact HC1_2.out);rintro e w29 ⟨rfl,hb⟩;refine ⟨_,rfl,?_⟩;replace BK168 := zb BK168 hb;replace BK169 := zb BK169 hb;replace HB := zs_ HB hb;(try clear hb);(try clear hb2);(try clear hk);(try clear hi);obtain ⟨hcz30_0,hcz30_1,hcz30_2,hcz30_3,hcz30_4,hfz30_0,hfz30_1,hfz30_2,hfz30_3,hfz30_4⟩ := zc5 BK168;obtain ⟨hcz31_0,hcz31_1,hcz31_2,hcz31_3,hcz31_4,hfz31_0,hfz31_1,hfz31_2,hfz31_3,hfz31_4⟩ := zc5 BK169))
      go_ret
      exact ⟨zt_,zl_ HB⟩
     ·rw [if_neg c20] at H
      have c20b0 : (a0_4 != a1_4) = false := by simpa using c20
      (try (have c20b1 : decide (a0_4 = a1_4) = true := by simpa using c20))
      (try (have c20b2 : (a0_4 == a1_4) = true := by simpa using c20))
      clear c20
      obtain rfl := Option.some.inj H
      go_enter Try.func28,Try.ntmps28
      go_wp2_with (first | ((with_reducible refine gate_dst (N := 2) rfl ?_);refine zbx (N := 2) (cs := #[.string a0_0,.slice A0_1 l0_1.length c0_1,.slice A0_2 l0_2.length c0_2,.bool a0_3,.bool a0_4]) (t := 51) ?_;intro gb168 hg w32 hbox hb;have BK168 := am_ (hbox);have GW168 := zw_ HB hg;have GE168 := zw_ HB hg;replace HB := zs_ HB hb;clear hb hbox hg) | ((with_reducible refine gate_dst (N := 3) rfl ?_);refine zbx (N := 3) (cs := #[.string a1_0,.slice A1_1 l1_1.length c1_1,.slice A1_2 l1_2.length c1_2,.bool a1_3,.bool a1_4]) (t := 51) ?_;intro gb169 hg w33 hbox hb;have BK169 := am_ (hbox);have GW169 := zw_ HB hg;have GE169 := zw_ HB hg;replace HB := zs_ HB hb;have NB168_169 := zl hg BK168;have NB169_168 := zg hg BK168;replace BK168 := zb BK168 hb;clear hb hbox hg;have hnb34 := NB168_169.out;have hnc34 := NB169_168.out;obtain ⟨hcz35_0,hcz35_1,hcz35_2,hcz35_3,hcz35_4,hfz35_0,hfz35_1,hfz35_2,hfz35_3,hfz35_4⟩ := zc5 BK168;obtain ⟨hcz36_0,hcz36_1,hcz36_2,hcz36_3,hcz36_4,hfz36_0,hfz36_1,hfz36_2,hfz36_3,hfz36_4⟩ := zc5 BK169) | ((with_reducible refine gate_callee (f := 17) rfl ?_);refine zgl (some 14) Try.func17 #[.slice A0_1 l0_1.length c0_1,.slice A1_1 l1_1.length c1_1] ?_;(with_reducible refine (laws_eqMessageS.calls k _ _ l0_1 _ _ l1_1 true _ ?side1 ?side2 ?side3 ?side4 A4.out).mono ?_);(case side1 => exact zc_ HR0_1 HB);(case side2 => exact HC0_1.out);(case side3 => exact zc_ HR1_1 HB);(case side4 => exact HC1_1.out);rintro e w37 ⟨rfl,hb⟩;refine ⟨_,rfl,?_⟩;replace BK168 := zb BK168 hb;replace BK169 := zb BK169 hb;replace HB := zs_ HB hb;(try clear hb);(try clear hb2);(try clear hk);(try clear hi);obtain ⟨hcz38_0,hcz38_1,hcz38_2,hcz38_3,hcz38_4,hfz38_0,hfz38_1,hfz38_2,hfz38_3,hfz38_4⟩ := zc5 BK168;obtain ⟨hcz39_0,hcz39_1,hcz39_2,hcz39_3,hcz39_4,hfz39_0,hfz39_1,hfz39_2,hfz39_3,hfz39_4⟩ := zc5 BK169) | ((with_reducible refine gate_callee (f := 17) rfl ?_);refine zgl (some 20) Try.func17 #[.slice A0_2 l0_2.length c0_2,.slice A1_2 l1_2.length c1_2] ?_;(with_reducible refine (laws_eqMessageS.calls k _ _ l0_2 _ _ l1_2 true _ ?side1 ?side2 ?side3 ?side4 A6.out).mono ?_);(case side1 => exact zc_ HR0_2 HB);(case side2 => exact HC0_2.out);(case side3 => exact zc_ HR1_2 HB);(case side4 => exact HC1_2.out);rintro e w40 ⟨rfl,hb⟩;refine ⟨_,rfl,?_⟩;replace BK168 := zb BK168 hb;replace BK169 := zb BK169 hb;replace HB := zs_ HB hb;(try clear hb);(try clear hb2);(try clear hk);(try clear hi);obtain ⟨hcz41_0,hcz41_1,hcz41_2,hcz41_3,hcz41_4,hfz41_0,hfz41_1,hfz41_2,hfz41_3,hfz41_4⟩ := zc5 BK168;obtain ⟨hcz42_0,hcz42_1,hcz42_2,hcz42_3,hcz42_4,hfz42_0,hfz42_1,hfz42_2,hfz42_3,hfz42_4⟩ := zc5 BK169))
      go_ret
      exact ⟨zt_,zl_ HB⟩
   ·replace c7 := Bool.eq_false_iff.mpr c7
    subst c7
    have H1 : (some false) = some r := by rw [if_neg (show ¬ (false = true) by decide)] at H;exact H
    clear H
    have H := H1
    clear H1
    obtain rfl := Option.some.inj H
    go_enter Try.func28,Try.ntmps28
    go_wp2_with (first | ((with_reducible refine gate_dst (N := 2) rfl ?_);refine zbx (N := 2) (cs := #[.string a0_0,.slice A0_1 l0_1.length c0_1,.slice A0_2 l0_2.length c0_2,.bool a0_3,.bool a0_4]) (t := 51) ?_;intro gb168 hg w43 hbox hb;have BK168 := am_ (hbox);have GW168 := zw_ HB hg;have GE168 := zw_ HB hg;replace HB := zs_ HB hb;clear hb hbox hg) | ((with_reducible refine gate_dst (N := 3) rfl ?_);refine zbx (N := 3) (cs := #[.string a1_0,.slice A1_1 l1_1.length c1_1,.slice A1_2 l1_2.length c1_2,.bool a1_3,.bool a1_4]) (t := 51) ?_;intro gb169 hg w44 hbox hb;have BK169 := am_ (hbox);have GW169 := zw_ HB hg;have GE169 := zw_ HB hg;replace HB := zs_ HB hb;have NB168_169 := zl hg BK168;have NB169_168 := zg hg BK168;replace BK168 := zb BK168 hb;clear hb hbox hg;have hnb45 := NB168_169.out;have hnc45 := NB169_168.out;obtain ⟨hcz46_0,hcz46_1,hcz46_2,hcz46_3,hcz46_4,hfz46_0,hfz46_1,hfz46_2,hfz46_3,hfz46_4⟩ := zc5 BK168;obtain ⟨hcz47_0,hcz47_1,hcz47_2,hcz47_3,hcz47_4,hfz47_0,hfz47_1,hfz47_2,hfz47_3,hfz47_4⟩ := zc5 BK169) | ((with_reducible refine gate_callee (f := 17) rfl ?_);refine zgl (some 14) Try.func17 #[.slice A0_1 l0_1.length c0_1,.slice A1_1 l1_1.length c1_1] ?_;(with_reducible refine (laws_eqMessageS.calls k _ _ l0_1 _ _ l1_1 true _ ?side1 ?side2 ?side3 ?side4 A4.out).mono ?_);(case side1 => exact zc_ HR0_1 HB);(case side2 => exact HC0_1.out);(case side3 => exact zc_ HR1_1 HB);(case side4 => exact HC1_1.out);rintro e w48 ⟨rfl,hb⟩;refine ⟨_,rfl,?_⟩;replace BK168 := zb BK168 hb;replace BK169 := zb BK169 hb;replace HB := zs_ HB hb;(try clear hb);(try clear hb2);(try clear hk);(try clear hi);obtain ⟨hcz49_0,hcz49_1,hcz49_2,hcz49_3,hcz49_4,hfz49_0,hfz49_1,hfz49_2,hfz49_3,hfz49_4⟩ := zc5 BK168;obtain ⟨hcz50_0,hcz50_1,hcz50_2,hcz50_3,hcz50_4,hfz50_0,hfz50_1,hfz50_2,hfz50_3,hfz50_4⟩ := zc5 BK169) | ((with_reducible refine gate_callee (f := 17) rfl ?_);refine zgl (some 20) Try.func17 #[.slice A0_2 l0_2.length c0_2,.slice A1_2 l1_2.length c1_2] ?_;(with_reducible refine (laws_eqMessageS.calls k _ _ l0_2 _ _ l1_2 false _ ?side1 ?side2 ?side3 ?side4 A6.out).mono ?_);(case side1 => exact zc_ HR0_2 HB);(case side2 => exact HC0_2.out);(case side3 => exact zc_ HR1_2 HB);(case side4 => exact HC1_2.out);rintro e w51 ⟨rfl,hb⟩;refine ⟨_,rfl,?_⟩;replace HB := zs_ HB hb;(try clear hb);(try clear hb2);(try clear hk);(try clear hi)))
    go_ret
    exact ⟨zt_,zl_ HB⟩
  ·replace c5 := Bool.eq_false_iff.mpr c5
   subst c5
   have H1 : (some false) = some r := by rw [if_neg (show ¬ (false = true) by decide)] at H;exact H
   clear H
   have H := H1
   clear H1
   obtain rfl := Option.some.inj H
   go_enter Try.func28,Try.ntmps28
   go_wp2_with (first | ((with_reducible refine gate_dst (N := 2) rfl ?_);refine zbx (N := 2) (cs := #[.string a0_0,.slice A0_1 l0_1.length c0_1,.slice A0_2 l0_2.length c0_2,.bool a0_3,.bool a0_4]) (t := 51) ?_;intro gb168 hg w52 hbox hb;have BK168 := am_ (hbox);have GW168 := zw_ HB hg;have GE168 := zw_ HB hg;replace HB := zs_ HB hb;clear hb hbox hg) | ((with_reducible refine gate_dst (N := 3) rfl ?_);refine zbx (N := 3) (cs := #[.string a1_0,.slice A1_1 l1_1.length c1_1,.slice A1_2 l1_2.length c1_2,.bool a1_3,.bool a1_4]) (t := 51) ?_;intro gb169 hg w53 hbox hb;have BK169 := am_ (hbox);have GW169 := zw_ HB hg;have GE169 := zw_ HB hg;replace HB := zs_ HB hb;have NB168_169 := zl hg BK168;have NB169_168 := zg hg BK168;replace BK168 := zb BK168 hb;clear hb hbox hg;have hnb54 := NB168_169.out;have hnc54 := NB169_168.out;obtain ⟨hcz55_0,hcz55_1,hcz55_2,hcz55_3,hcz55_4,hfz55_0,hfz55_1,hfz55_2,hfz55_3,hfz55_4⟩ := zc5 BK168;obtain ⟨hcz56_0,hcz56_1,hcz56_2,hcz56_3,hcz56_4,hfz56_0,hfz56_1,hfz56_2,hfz56_3,hfz56_4⟩ := zc5 BK169) | ((with_reducible refine gate_callee (f := 17) rfl ?_);refine zgl (some 14) Try.func17 #[.slice A0_1 l0_1.length c0_1,.slice A1_1 l1_1.length c1_1] ?_;(with_reducible refine (laws_eqMessageS.calls k _ _ l0_1 _ _ l1_1 false _ ?side1 ?side2 ?side3 ?side4 A4.out).mono ?_);(case side1 => exact zc_ HR0_1 HB);(case side2 => exact HC0_1.out);(case side3 => exact zc_ HR1_1 HB);(case side4 => exact HC1_1.out);rintro e w57 ⟨rfl,hb⟩;refine ⟨_,rfl,?_⟩;replace HB := zs_ HB hb;(try clear hb);(try clear hb2);(try clear hk);(try clear hi)))
   go_ret
   exact ⟨zt_,zl_ HB⟩
 ·rw [if_neg c3] at H
  have c3b0 : (a0_0.toList == a1_0.toList) = false := beq_eq_false_iff_ne.mpr c3
  have c3b1 : (a0_0.toList != a1_0.toList) = true := bne_iff_ne.mpr c3
  obtain rfl := Option.some.inj H
  go_enter Try.func28,Try.ntmps28
  go_wp2_with (first | ((with_reducible refine gate_dst (N := 2) rfl ?_);refine zbx (N := 2) (cs := #[.string a0_0,.slice A0_1 l0_1.length c0_1,.slice A0_2 l0_2.length c0_2,.bool a0_3,.bool a0_4]) (t := 51) ?_;intro gb168 hg w58 hbox hb;have BK168 := am_ (hbox);have GW168 := zw_ HB hg;have GE168 := zw_ HB hg;replace HB := zs_ HB hb;clear hb hbox hg) | ((with_reducible refine gate_dst (N := 3) rfl ?_);refine zbx (N := 3) (cs := #[.string a1_0,.slice A1_1 l1_1.length c1_1,.slice A1_2 l1_2.length c1_2,.bool a1_3,.bool a1_4]) (t := 51) ?_;intro gb169 hg w59 hbox hb;have BK169 := am_ (hbox);have GW169 := zw_ HB hg;have GE169 := zw_ HB hg;replace HB := zs_ HB hb;have NB168_169 := zl hg BK168;have NB169_168 := zg hg BK168;replace BK168 := zb BK168 hb;clear hb hbox hg;have hnb60 := NB168_169.out;have hnc60 := NB169_168.out;obtain ⟨hcz61_0,hcz61_1,hcz61_2,hcz61_3,hcz61_4,hfz61_0,hfz61_1,hfz61_2,hfz61_3,hfz61_4⟩ := zc5 BK168;obtain ⟨hcz62_0,hcz62_1,hcz62_2,hcz62_3,hcz62_4,hfz62_0,hfz62_1,hfz62_2,hfz62_3,hfz62_4⟩ := zc5 BK169))
  go_ret
  exact ⟨zt_,zl_ HB⟩
def laws_eqSlotS.T6 : Bool × List (List Nat × List Nat) := (true,[([],[]),([],[]),([0,1],[0,1]),([2],[2]),([],[]),([],[]),([4,5],[4,5]),([6],[6]),([3,7],[3,7]),([8],[8])])
def laws_eqSlotS.B6 : List Nat := [0,0,3,7,0,0,48,112,255,511]
theorem laws_eqSlotS.tab6 : rtab .any (opsOf Try.f14 6) = laws_eqSlotS.T6 := by kernel_rfl
theorem laws_eqSlotS.bits6 : waitsOk laws_eqSlotS.T6.2 laws_eqSlotS.B6 = true := by kernel_rfl
set_option maxHeartbeats 8000000 in
set_option maxRecDepth 100000 in
theorem laws_eqSlotS.calls (k : Nat) (A0 : Option Addr) (c0 : Nat) (l0 : List (S51)) (A1 : Option Addr) (c1 : Nat) (l1 : List (S51)) (r : Bool) (w : World) (hr0 : Kd.C k51 w A0 l0.length l0) (hc0 : l0.length ≤ c0) (hr1 : Kd.C k51 w A1 l1.length l1) (hc1 : l1.length ≤ c1) (h : laws_eqSlotS.f k l0 l1 = some r) :
  Calls Try.prog 14 #[.slice A0 l0.length c0,.slice A1 l1.length c1] w fun e w' => e = .returned (.bool r) ∧ Below w.heap.size w w' := by
 have hu51 := Try.underlying51
 have HR0 := am_ hr0
 have HC0 := am_ hc0
 clear hr0 hc0
 have HR1 := am_ hr1
 have HC1 := am_ hc1
 clear hr1 hc1
 have HB := am_ (Below.refl w.heap.size w)
 have H : (if (l0.length : Int) = (l1.length : Int) then (laws_eqSlotS.l0 k l0 l1 0) else (some false)) = some r := h
 clear h
 by_cases c3 : (l0.length : Int) = (l1.length : Int)
 ·rw [if_pos c3] at H
  have c3b0 : ((l0.length : Int) == (l1.length : Int)) = true := beq_iff_eq.mpr c3
  have c3b1 : ((l0.length : Int) != (l1.length : Int)) = false := bne_eq_false_iff_eq.mpr c3
  have c3b2 : (l0.length == l1.length) = true := by first | simpa using c3 | (simp at c3 ⊢;omega)
  clear c3
  have H' := am_ H
  clear H
  go_enter Try.func14,Try.ntmps14
  go_wp2
  go_loopg [5] k (fun kq v5 w' => ∃ (x5_1 : Int),v5 = .int .i64 x5_1 ∧ Aside0 (laws_eqSlotS.l0 kq l0 l1 x5_1 = some r) ∧ Aside0 (kq ≤ k) ∧ Aside0 (Below w.heap.size w w'))
  case atStart => exact ⟨(0),(by first | rfl | (simp;done) | (simp [*];done)),H',⟨Nat.le_refl _⟩,⟨zl_ HB⟩⟩
  case round =>
   clear H'
   try clear c1
   try clear p2
   try clear c3
   try clear c3b0
   try clear c3b1
   try clear c3b2
   obtain ⟨x5_1,rfl,HA,HK1,HB⟩ := hrel
   cases gk with
   | zero => exact absurd HA.out (by simp [laws_eqSlotS.l0])
   | succ k1 =>
    have H := HA.out
    clear HA
    simp only [laws_eqSlotS.l0] at H
    by_cases c4 : x5_1 < (l0.length : Int)
    ·rw [if_pos c4] at H
     have c4b0 : decide (x5_1 < (l0.length : Int)) = true := decide_eq_true c4
     clear c4
     by_cases c5 : 0 ≤ x5_1
     ·rw [if_pos c5] at H
      have c5b0 : decide (0 ≤ x5_1) = true := decide_eq_true c5
      clear c5
      by_cases c6 : x5_1 < (l1.length : Int)
      ·rw [if_pos c6] at H
       have c6b0 : decide (x5_1 < (l1.length : Int)) = true := decide_eq_true c6
       clear c6
       replace H := Option.bind_eq_some_iff.mp H
       obtain ⟨t174,A70,H⟩ := H
       try dsimp only at H
       have A7 := am_ A70
       clear A70
       by_cases c8 : t174 = true
       ·subst c8
        have H1 : (laws_eqSlotS.l0 k1 l0 l1 (wrap64 (x5_1 + 1))) = some r := by rw [if_pos rfl] at H;exact H
        clear H
        have H := H1
        clear H1
        have H' := am_ H
        clear H
        try go_wp2
        replace HB := am_ (below_drew1 HB.out)
        have p172 : 0 ≤ (x5_1 : Int) := zo_
        have q172 : x5_1 < (l0.length : Int) := zo_
        obtain ⟨ad172,A172_1,c172_1,A172_2,c172_2,e172,hx172_0,hx172_1,hx172_2,hx172_3,hx172_4,hl172_1,hi172_1,hl172_2,hi172_2⟩ := at_T51 HR0.out x5_1 p172 q172
        have hw172_4 := hx172_4
        have hw172_3 := hx172_3
        have hw172_2 := hx172_2
        have hw172_1 := hx172_1
        have hw172_0 := hx172_0
        have hv172_1 := hx172_1
        have hv172_2 := hx172_2
        cases e172
        replace hx172_0 := zx_ HB hx172_0
        replace hx172_1 := zx_ HB hx172_1
        replace hx172_2 := zx_ HB hx172_2
        replace hx172_3 := zx_ HB hx172_3
        replace hx172_4 := zx_ HB hx172_4
        have HR172_1 := am_ hi172_1
        have HC172_1 := am_ hl172_1
        clear hi172_1 hl172_1
        have HR172_2 := am_ hi172_2
        have HC172_2 := am_ hl172_2
        clear hi172_2 hl172_2
        replace p172 := eq_true p172
        replace q172 := eq_true q172
        have p173 : 0 ≤ (x5_1 : Int) := zo_
        have q173 : x5_1 < (l1.length : Int) := zo_
        obtain ⟨ad173,A173_1,c173_1,A173_2,c173_2,e173,hx173_0,hx173_1,hx173_2,hx173_3,hx173_4,hl173_1,hi173_1,hl173_2,hi173_2⟩ := at_T51 HR1.out x5_1 p173 q173
        have hw173_4 := hx173_4
        have hw173_3 := hx173_3
        have hw173_2 := hx173_2
        have hw173_1 := hx173_1
        have hw173_0 := hx173_0
        have hv173_1 := hx173_1
        have hv173_2 := hx173_2
        cases e173
        replace hx173_0 := zx_ HB hx173_0
        replace hx173_1 := zx_ HB hx173_1
        replace hx173_2 := zx_ HB hx173_2
        replace hx173_3 := zx_ HB hx173_3
        replace hx173_4 := zx_ HB hx173_4
        have HR173_1 := am_ hi173_1
        have HC173_1 := am_ hl173_1
        clear hi173_1 hl173_1
        have HR173_2 := am_ hi173_2
        have HC173_2 := am_ hl173_2
        clear hi173_2 hl173_2
        replace p173 := eq_true p173
        replace q173 := eq_true q173
        refine start_ (n := 10) (S := fun w' => w'.cell? (ad172.add ((x5_1).toNat * 5)) = some (.string ((rd_T51 l0 x5_1).f0)) ∧ w'.cell? ⟨(ad172.add ((x5_1).toNat * 5)).block,(ad172.add ((x5_1).toNat * 5)).off + 1,none⟩ = some (.slice A172_1 ((rd_T51 l0 x5_1).f1).length c172_1) ∧ w'.cell? ⟨(ad172.add ((x5_1).toNat * 5)).block,(ad172.add ((x5_1).toNat * 5)).off + 2,none⟩ = some (.slice A172_2 ((rd_T51 l0 x5_1).f2).length c172_2) ∧ w'.cell? ⟨(ad172.add ((x5_1).toNat * 5)).block,(ad172.add ((x5_1).toNat * 5)).off + 3,none⟩ = some (.bool ((rd_T51 l0 x5_1).f3)) ∧ w'.cell? ⟨(ad172.add ((x5_1).toNat * 5)).block,(ad172.add ((x5_1).toNat * 5)).off + 4,none⟩ = some (.bool ((rd_T51 l0 x5_1).f4)) ∧ w'.cell? (ad173.add ((x5_1).toNat * 5)) = some (.string ((rd_T51 l1 x5_1).f0)) ∧ w'.cell? ⟨(ad173.add ((x5_1).toNat * 5)).block,(ad173.add ((x5_1).toNat * 5)).off + 1,none⟩ = some (.slice A173_1 ((rd_T51 l1 x5_1).f1).length c173_1) ∧ w'.cell? ⟨(ad173.add ((x5_1).toNat * 5)).block,(ad173.add ((x5_1).toNat * 5)).off + 2,none⟩ = some (.slice A173_2 ((rd_T51 l1 x5_1).f2).length c173_2) ∧ w'.cell? ⟨(ad173.add ((x5_1).toNat * 5)).block,(ad173.add ((x5_1).toNat * 5)).off + 3,none⟩ = some (.bool ((rd_T51 l1 x5_1).f3)) ∧ w'.cell? ⟨(ad173.add ((x5_1).toNat * 5)).block,(ad173.add ((x5_1).toNat * 5)).off + 4,none⟩ = some (.bool ((rd_T51 l1 x5_1).f4))) (ds := []) #[false,false,false,false,false,false,false,false,false,false] (by kernel_rfl) rfl rfl ⟨(zx_ HB hw172_0),(zx_ HB hw172_1),(zx_ HB hw172_2),(zx_ HB hw172_3),(zx_ HB hw172_4),(zx_ HB hw173_0),(zx_ HB hw173_1),(zx_ HB hw173_2),(zx_ HB hw173_3),(zx_ HB hw173_4)⟩ (fun hHeld => ?_);refine with_tabW laws_eqSlotS.tab6 laws_eqSlotS.bits6 (fun HT_ HW_ => ?_)
        generalize wr.drew = w9 at HB HR172_1 HR172_2 HR173_1 HR173_2 hx172_0 hx172_1 hx172_2 hx172_3 hx172_4 hx173_0 hx173_1 hx173_2 hx173_3 hx173_4 hHeld ⊢
        refine zpu 0 (N := some 17) HT_ ?_
        refine zpu 1 (N := some 18) HT_ ?_
        refine zpu 2 (N := some 19) HT_ ?_
        refine zpu 4 (N := some 21) HT_ ?_
        refine zpu 5 (N := some 22) HT_ ?_
        refine zpu 6 (N := some 23) HT_ ?_
        refine ztk 3 (N := some 20) HT_ HW_ hHeld ?_
        refine ztk 7 (N := some 24) HT_ HW_ hHeld ?_
        refine zon 8 (N := some 25) HT_ (fun K hK => ?_)
        refine zgo Try.func28 #[.agg #[.string ((rd_T51 l0 x5_1).f0),.slice A172_1 ((rd_T51 l0 x5_1).f1).length c172_1,.slice A172_2 ((rd_T51 l0 x5_1).f2).length c172_2,.bool ((rd_T51 l0 x5_1).f3),.bool ((rd_T51 l0 x5_1).f4)],.agg #[.string ((rd_T51 l1 x5_1).f0),.slice A173_1 ((rd_T51 l1 x5_1).f1).length c173_1,.slice A173_2 ((rd_T51 l1 x5_1).f2).length c173_2,.bool ((rd_T51 l1 x5_1).f3),.bool ((rd_T51 l1 x5_1).f4)]] ?_
        with_reducible refine (laws_eqSlot.calls k1 ((rd_T51 l0 x5_1).f0) _ _ ((rd_T51 l0 x5_1).f1) _ _ ((rd_T51 l0 x5_1).f2) ((rd_T51 l0 x5_1).f3) ((rd_T51 l0 x5_1).f4) ((rd_T51 l1 x5_1).f0) _ _ ((rd_T51 l1 x5_1).f1) _ _ ((rd_T51 l1 x5_1).f2) ((rd_T51 l1 x5_1).f3) ((rd_T51 l1 x5_1).f4) true _ ?side1 ?side2 ?side3 ?side4 ?side5 ?side6 ?side7 ?side8 A7.out).mono ?_
        (case side1 => exact zc_ HR172_1 HB)
        (case side2 => exact HC172_1.out)
        (case side3 => exact zc_ HR172_2 HB)
        (case side4 => exact HC172_2.out)
        (case side5 => exact zc_ HR173_1 HB)
        (case side6 => exact HC173_1.out)
        (case side7 => exact zc_ HR173_2 HB)
        (case side8 => exact HC173_2.out)
        rintro e w10 ⟨rfl,hb⟩
        refine ⟨_,rfl,?_⟩
        replace HB := zs_ HB hb
        (try clear hb)
        (try clear hb2)
        (try clear hk)
        (try clear hi)
        refine hK.out _ _ ⟨(zx_ HB hw172_0),(zx_ HB hw172_1),(zx_ HB hw172_2),(zx_ HB hw172_3),(zx_ HB hw172_4),(zx_ HB hw173_0),(zx_ HB hw173_1),(zx_ HB hw173_2),(zx_ HB hw173_3),(zx_ HB hw173_4)⟩ (fun hHeld => ?_)
        clear hK K
        refine norm_ (a' := ?_) ?_ ?_
        rotate_left
        ·show Act.put _ (some 25) _ = _
         simp only [Act.put,p1_,p2_,p3_,i64_w,i32_w]
         rfl
        refine zpu 9 (N := some 26) HT_ ?_
        refine done_ (done_of HT_.out (by kernel_rfl)) ?_
        try go_wp2
        go_roundg k1
        case measure => have := HK1.out;omega
        case rel => exact ⟨(wrap64 (x5_1 + 1)),(by first | rfl | (simp;done) | (simp [*];done)),H',⟨by have := HK1.out;omega⟩,⟨zl_ HB⟩⟩
       ·replace c8 := Bool.eq_false_iff.mpr c8
        subst c8
        have H1 : (some false) = some r := by rw [if_neg (show ¬ (false = true) by decide)] at H;exact H
        clear H
        have H := H1
        clear H1
        obtain rfl := Option.some.inj H
        try go_wp2
        replace HB := am_ (below_drew1 HB.out)
        have p172 : 0 ≤ (x5_1 : Int) := zo_
        have q172 : x5_1 < (l0.length : Int) := zo_
        obtain ⟨ad172,A172_1,c172_1,A172_2,c172_2,e172,hx172_0,hx172_1,hx172_2,hx172_3,hx172_4,hl172_1,hi172_1,hl172_2,hi172_2⟩ := at_T51 HR0.out x5_1 p172 q172
        have hw172_4 := hx172_4
        have hw172_3 := hx172_3
        have hw172_2 := hx172_2
        have hw172_1 := hx172_1
        have hw172_0 := hx172_0
        have hv172_1 := hx172_1
        have hv172_2 := hx172_2
        cases e172
        replace hx172_0 := zx_ HB hx172_0
        replace hx172_1 := zx_ HB hx172_1
        replace hx172_2 := zx_ HB hx172_2
        replace hx172_3 := zx_ HB hx172_3
        replace hx172_4 := zx_ HB hx172_4
        have HR172_1 := am_ hi172_1
        have HC172_1 := am_ hl172_1
        clear hi172_1 hl172_1
        have HR172_2 := am_ hi172_2
        have HC172_2 := am_ hl172_2
        clear hi172_2 hl172_2
        replace p172 := eq_true p172
        replace q172 := eq_true q172
        have p173 : 0 ≤ (x5_1 : Int) := zo_
        have q173 : x5_1 < (l1.length : Int) := zo_
        obtain ⟨ad173,A173_1,c173_1,A173_2,c173_2,e173,hx173_0,hx173_1,hx173_2,hx173_3,hx173_4,hl173_1,hi173_1,hl173_2,hi173_2⟩ := at_T51 HR1.out x5_1 p173 q173
        have hw173_4 := hx173_4
        have hw173_3 := hx173_3
        have hw173_2 := hx173_2
        have hw173_1 := hx173_1
        have hw173_0 := hx173_0
        have hv173_1 := hx173_1
        have hv173_2 := hx173_2
        cases e173
        replace hx173_0 := zx_ HB hx173_0
        replace hx173_1 := zx_ HB hx173_1
        replace hx173_2 := zx_ HB hx173_2
        replace hx173_3 := zx_ HB hx173_3
        replace hx173_4 := zx_ HB hx173_4
        have HR173_1 := am_ hi173_1
        have HC173_1 := am_ hl173_1
        clear hi173_1 hl173_1
        have HR173_2 := am_ hi173_2
        have HC173_2 := am_ hl173_2
        clear hi173_2 hl173_2
        replace p173 := eq_true p173
        replace q173 := eq_true q173
        refine start_ (n := 10) (S := fun w' => w'.cell? (ad172.add ((x5_1).toNat * 5)) = some (.string ((rd_T51 l0 x5_1).f0)) ∧ w'.cell? ⟨(ad172.add ((x5_1).toNat * 5)).block,(ad172.add ((x5_1).toNat * 5)).off + 1,none⟩ = some (.slice A172_1 ((rd_T51 l0 x5_1).f1).length c172_1) ∧ w'.cell? ⟨(ad172.add ((x5_1).toNat * 5)).block,(ad172.add ((x5_1).toNat * 5)).off + 2,none⟩ = some (.slice A172_2 ((rd_T51 l0 x5_1).f2).length c172_2) ∧ w'.cell? ⟨(ad172.add ((x5_1).toNat * 5)).block,(ad172.add ((x5_1).toNat * 5)).off + 3,none⟩ = some (.bool ((rd_T51 l0 x5_1).f3)) ∧ w'.cell? ⟨(ad172.add ((x5_1).toNat * 5)).block,(ad172.add ((x5_1).toNat * 5)).off + 4,none⟩ = some (.bool ((rd_T51 l0 x5_1).f4)) ∧ w'.cell? (ad173.add ((x5_1).toNat * 5)) = some (.string ((rd_T51 l1 x5_1).f0)) ∧ w'.cell? ⟨(ad173.add ((x5_1).toNat * 5)).block,(ad173.add ((x5_1).toNat * 5)).off + 1,none⟩ = some (.slice A173_1 ((rd_T51 l1 x5_1).f1).length c173_1) ∧ w'.cell? ⟨(ad173.add ((x5_1).toNat * 5)).block,(ad173.add ((x5_1).toNat * 5)).off + 2,none⟩ = some (.slice A173_2 ((rd_T51 l1 x5_1).f2).length c173_2) ∧ w'.cell? ⟨(ad173.add ((x5_1).toNat * 5)).block,(ad173.add ((x5_1).toNat * 5)).off + 3,none⟩ = some (.bool ((rd_T51 l1 x5_1).f3)) ∧ w'.cell? ⟨(ad173.add ((x5_1).toNat * 5)).block,(ad173.add ((x5_1).toNat * 5)).off + 4,none⟩ = some (.bool ((rd_T51 l1 x5_1).f4))) (ds := []) #[false,false,false,false,false,false,false,false,false,false] (by kernel_rfl) rfl rfl ⟨(zx_ HB hw172_0),(zx_ HB hw172_1),(zx_ HB hw172_2),(zx_ HB hw172_3),(zx_ HB hw172_4),(zx_ HB hw173_0),(zx_ HB hw173_1),(zx_ HB hw173_2),(zx_ HB hw173_3),(zx_ HB hw173_4)⟩ (fun hHeld => ?_);refine with_tabW laws_eqSlotS.tab6 laws_eqSlotS.bits6 (fun HT_ HW_ => ?_)
        generalize wr.drew = w11 at HB HR172_1 HR172_2 HR173_1 HR173_2 hx172_0 hx172_1 hx172_2 hx172_3 hx172_4 hx173_0 hx173_1 hx173_2 hx173_3 hx173_4 hHeld ⊢
        refine zpu 0 (N := some 17) HT_ ?_
        refine zpu 1 (N := some 18) HT_ ?_
        refine zpu 2 (N := some 19) HT_ ?_
        refine zpu 4 (N := some 21) HT_ ?_
        refine zpu 5 (N := some 22) HT_ ?_
        refine zpu 6 (N := some 23) HT_ ?_
        refine ztk 3 (N := some 20) HT_ HW_ hHeld ?_
        refine ztk 7 (N := some 24) HT_ HW_ hHeld ?_
        refine zon 8 (N := some 25) HT_ (fun K hK => ?_)
        refine zgo Try.func28 #[.agg #[.string ((rd_T51 l0 x5_1).f0),.slice A172_1 ((rd_T51 l0 x5_1).f1).length c172_1,.slice A172_2 ((rd_T51 l0 x5_1).f2).length c172_2,.bool ((rd_T51 l0 x5_1).f3),.bool ((rd_T51 l0 x5_1).f4)],.agg #[.string ((rd_T51 l1 x5_1).f0),.slice A173_1 ((rd_T51 l1 x5_1).f1).length c173_1,.slice A173_2 ((rd_T51 l1 x5_1).f2).length c173_2,.bool ((rd_T51 l1 x5_1).f3),.bool ((rd_T51 l1 x5_1).f4)]] ?_
        with_reducible refine (laws_eqSlot.calls k1 ((rd_T51 l0 x5_1).f0) _ _ ((rd_T51 l0 x5_1).f1) _ _ ((rd_T51 l0 x5_1).f2) ((rd_T51 l0 x5_1).f3) ((rd_T51 l0 x5_1).f4) ((rd_T51 l1 x5_1).f0) _ _ ((rd_T51 l1 x5_1).f1) _ _ ((rd_T51 l1 x5_1).f2) ((rd_T51 l1 x5_1).f3) ((rd_T51 l1 x5_1).f4) false _ ?side1 ?side2 ?side3 ?side4 ?side5 ?side6 ?side7 ?side8 A7.out).mono ?_
        (case side1 => exact zc_ HR172_1 HB)
        (case side2 => exact HC172_1.out)
        (case side3 => exact zc_ HR172_2 HB)
        (case side4 => exact HC172_2.out)
        (case side5 => exact zc_ HR173_1 HB)
        (case side6 => exact HC173_1.out)
        (case side7 => exact zc_ HR173_2 HB)
        (case side8 => exact HC173_2.out)
        rintro e w12 ⟨rfl,hb⟩
        refine ⟨_,rfl,?_⟩
        replace HB := zs_ HB hb
        (try clear hb)
        (try clear hb2)
        (try clear hk)
        (try clear hi)
        refine hK.out _ _ ⟨(zx_ HB hw172_0),(zx_ HB hw172_1),(zx_ HB hw172_2),(zx_ HB hw172_3),(zx_ HB hw172_4),(zx_ HB hw173_0),(zx_ HB hw173_1),(zx_ HB hw173_2),(zx_ HB hw173_3),(zx_ HB hw173_4)⟩ (fun hHeld => ?_)
        clear hK K
        refine norm_ (a' := ?_) ?_ ?_
        rotate_left
        ·show Act.put _ (some 25) _ = _
         simp only [Act.put,p1_,p2_,p3_,i64_w,i32_w]
         rfl
        refine zpu 9 (N := some 26) HT_ ?_
        refine done_ (done_of HT_.out (by kernel_rfl)) ?_
        try go_wp2
        go_ret
        exact ⟨zt_,zl_ HB⟩
      ·rw [if_neg c6] at H
       exact absurd H (by simp)
     ·rw [if_neg c5] at H
      exact absurd H (by simp)
    ·rw [if_neg c4] at H
     have c4b0 : decide (x5_1 < (l0.length : Int)) = false := decide_eq_false c4
     clear c4
     obtain rfl := Option.some.inj H
     go_wp2
     go_ret
     exact ⟨zt_,zl_ HB⟩
 ·rw [if_neg c3] at H
  have c3b0 : ((l0.length : Int) == (l1.length : Int)) = false := beq_eq_false_iff_ne.mpr c3
  have c3b1 : ((l0.length : Int) != (l1.length : Int)) = true := bne_iff_ne.mpr c3
  have c3b2 : (l0.length == l1.length) = false := by first | simpa using c3 | (simp at c3 ⊢;omega)
  obtain rfl := Option.some.inj H
  go_enter Try.func14,Try.ntmps14
  go_wp2
  go_ret
  exact ⟨zt_,zl_ HB⟩
set_option maxHeartbeats 8000000 in
set_option maxRecDepth 100000 in
theorem laws_eqStringS.calls (k : Nat) (A0 : Option Addr) (c0 : Nat) (l0 : List ByteArray) (A1 : Option Addr) (c1 : Nat) (l1 : List ByteArray) (r : Bool) (w : World) (hr0 : Kd.C Kd.string w A0 l0.length l0) (hc0 : l0.length ≤ c0) (hr1 : Kd.C Kd.string w A1 l1.length l1) (hc1 : l1.length ≤ c1) (h : laws_eqStringS.f k l0 l1 = some r) :
  Calls Try.prog 16 #[.slice A0 l0.length c0,.slice A1 l1.length c1] w fun e w' => e = .returned (.bool r) ∧ Drawn0 w w' := by
 have HR0 := am_ hr0
 have HC0 := am_ hc0
 clear hr0 hc0
 have HR1 := am_ hr1
 have HC1 := am_ hc1
 clear hr1 hc1
 have H : (if (l0.length : Int) = (l1.length : Int) then (laws_eqStringS.l0 k l0 l1 0) else (some false)) = some r := h
 clear h
 by_cases c3 : (l0.length : Int) = (l1.length : Int)
 ·rw [if_pos c3] at H
  have c3b0 : ((l0.length : Int) == (l1.length : Int)) = true := beq_iff_eq.mpr c3
  have c3b1 : ((l0.length : Int) != (l1.length : Int)) = false := bne_eq_false_iff_eq.mpr c3
  have c3b2 : (l0.length == l1.length) = true := by first | simpa using c3 | (simp at c3 ⊢;omega)
  clear c3
  have H' := am_ H
  clear H
  go_enter Try.func16,Try.ntmps16
  go_wp2
  repeat (go_quiet (fail);try go_wp2)
  go_loopg [5] k (fun kq v5 w' => ∃ (x5_1 : Int),v5 = .int .i64 x5_1 ∧ Aside0 (laws_eqStringS.l0 kq l0 l1 x5_1 = some r) ∧ Aside0 (kq ≤ k) ∧ Drawn0 w w')
  case atStart => exact ⟨(0),(by first | rfl | (simp;done) | (simp [*];done)),H',⟨Nat.le_refl _⟩,by repeat (first | exact Drawn0.refl _ | apply Drawn0.step)⟩
  case round =>
   clear H'
   try clear c1
   try clear p2
   try clear c3
   try clear c3b0
   try clear c3b1
   try clear c3b2
   obtain ⟨x5_1,rfl,HA,HK1,⟨m1,rfl⟩⟩ := hrel
   cases gk with
   | zero => exact absurd HA.out (by simp [laws_eqStringS.l0])
   | succ k1 =>
    have H := HA.out
    clear HA
    simp only [laws_eqStringS.l0] at H
    by_cases c4 : x5_1 < (l0.length : Int)
    ·rw [if_pos c4] at H
     have c4b0 : decide (x5_1 < (l0.length : Int)) = true := decide_eq_true c4
     clear c4
     by_cases c5 : 0 ≤ x5_1
     ·rw [if_pos c5] at H
      have c5b0 : decide (0 ≤ x5_1) = true := decide_eq_true c5
      clear c5
      by_cases c6 : x5_1 < (l1.length : Int)
      ·rw [if_pos c6] at H
       have c6b0 : decide (x5_1 < (l1.length : Int)) = true := decide_eq_true c6
       clear c6
       by_cases c7 : (rdOf ByteArray.empty l0 x5_1).toList = (rdOf ByteArray.empty l1 x5_1).toList
       ·rw [if_pos c7] at H
        have c7b0 : ((rdOf ByteArray.empty l0 x5_1).toList == (rdOf ByteArray.empty l1 x5_1).toList) = true := beq_iff_eq.mpr c7
        have c7b1 : ((rdOf ByteArray.empty l0 x5_1).toList != (rdOf ByteArray.empty l1 x5_1).toList) = false := bne_eq_false_iff_eq.mpr c7
        clear c7
        have H' := am_ H
        clear H
        have p181 : 0 ≤ (x5_1 : Int) := zo_
        have q181 : x5_1 < (l0.length : Int) := zo_
        obtain ⟨ad181,e181,hx181_0⟩ := Kd.at_string HR0.out x5_1 p181 q181
        cases e181
        replace p181 := eq_true p181
        replace q181 := eq_true q181
        have p182 : 0 ≤ (x5_1 : Int) := zo_
        have q182 : x5_1 < (l1.length : Int) := zo_
        obtain ⟨ad182,e182,hx182_0⟩ := Kd.at_string HR1.out x5_1 p182 q182
        cases e182
        replace p182 := eq_true p182
        replace q182 := eq_true q182
        go_wp2
        repeat (go_quiet (fail);try go_wp2)
        go_roundg k1
        case measure => have := HK1.out;omega
        case rel => exact ⟨(wrap64 (x5_1 + 1)),(by first | rfl | (simp;done) | (simp [*];done)),H',⟨by have := HK1.out;omega⟩,by repeat (first | exact Drawn0.refl _ | apply Drawn0.step)⟩
       ·rw [if_neg c7] at H
        have c7b0 : ((rdOf ByteArray.empty l0 x5_1).toList == (rdOf ByteArray.empty l1 x5_1).toList) = false := beq_eq_false_iff_ne.mpr c7
        have c7b1 : ((rdOf ByteArray.empty l0 x5_1).toList != (rdOf ByteArray.empty l1 x5_1).toList) = true := bne_iff_ne.mpr c7
        obtain rfl := Option.some.inj H
        have p181 : 0 ≤ (x5_1 : Int) := zo_
        have q181 : x5_1 < (l0.length : Int) := zo_
        obtain ⟨ad181,e181,hx181_0⟩ := Kd.at_string HR0.out x5_1 p181 q181
        cases e181
        replace p181 := eq_true p181
        replace q181 := eq_true q181
        have p182 : 0 ≤ (x5_1 : Int) := zo_
        have q182 : x5_1 < (l1.length : Int) := zo_
        obtain ⟨ad182,e182,hx182_0⟩ := Kd.at_string HR1.out x5_1 p182 q182
        cases e182
        replace p182 := eq_true p182
        replace q182 := eq_true q182
        go_wp2
        repeat (go_quiet (fail);try go_wp2)
        go_ret
        exact ⟨by first | rfl | (simp;done) | (simp [*];done),by repeat (first | exact Drawn0.refl _ | apply Drawn0.step)⟩
      ·rw [if_neg c6] at H
       exact absurd H (by simp)
     ·rw [if_neg c5] at H
      exact absurd H (by simp)
    ·rw [if_neg c4] at H
     have c4b0 : decide (x5_1 < (l0.length : Int)) = false := decide_eq_false c4
     clear c4
     obtain rfl := Option.some.inj H
     go_wp2
     repeat (go_quiet (fail);try go_wp2)
     go_ret
     exact ⟨by first | rfl | (simp;done) | (simp [*];done),by repeat (first | exact Drawn0.refl _ | apply Drawn0.step)⟩
 ·rw [if_neg c3] at H
  have c3b0 : ((l0.length : Int) == (l1.length : Int)) = false := beq_eq_false_iff_ne.mpr c3
  have c3b1 : ((l0.length : Int) != (l1.length : Int)) = true := bne_iff_ne.mpr c3
  have c3b2 : (l0.length == l1.length) = false := by first | simpa using c3 | (simp at c3 ⊢;omega)
  obtain rfl := Option.some.inj H
  go_enter Try.func16,Try.ntmps16
  go_wp2
  repeat (go_quiet (fail);try go_wp2)
  go_ret
  exact ⟨by first | rfl | (simp;done) | (simp [*];done),by repeat (first | exact Drawn0.refl _ | apply Drawn0.step)⟩
set_option maxHeartbeats 8000000 in
set_option maxRecDepth 100000 in
theorem laws_eqReplica.calls (k : Nat) (a0_0 : Int) (a0_1 : Int) (a0_2 : Int) (a0_3 : Bool) (A0_4 : Option Addr) (c0_4 : Nat) (l0_4 : List (S51)) (A0_5 : Option Addr) (c0_5 : Nat) (l0_5 : List (S46)) (A0_6 : Option Addr) (c0_6 : Nat) (l0_6 : List ByteArray) (A0_7 : Option Addr) (c0_7 : Nat) (l0_7 : List (S55)) (a1_0 : Int) (a1_1 : Int) (a1_2 : Int) (a1_3 : Bool) (A1_4 : Option Addr) (c1_4 : Nat) (l1_4 : List (S51)) (A1_5 : Option Addr) (c1_5 : Nat) (l1_5 : List (S46)) (A1_6 : Option Addr) (c1_6 : Nat) (l1_6 : List ByteArray) (A1_7 : Option Addr) (c1_7 : Nat) (l1_7 : List (S55)) (r : Bool) (w : World) (hr0_4 : Kd.C k51 w A0_4 l0_4.length l0_4) (hc0_4 : l0_4.length ≤ c0_4) (hr0_5 : Kd.C k46 w A0_5 l0_5.length l0_5) (hc0_5 : l0_5.length ≤ c0_5) (hr0_6 : Kd.C Kd.string w A0_6 l0_6.length l0_6) (hc0_6 : l0_6.length ≤ c0_6) (hr0_7 : Kd.C k55 w A0_7 l0_7.length l0_7) (hc0_7 : l0_7.length ≤ c0_7) (hr1_4 : Kd.C k51 w A1_4 l1_4.length l1_4) (hc1_4 : l1_4.length ≤ c1_4) (hr1_5 : Kd.C k46 w A1_5 l1_5.length l1_5) (hc1_5 : l1_5.length ≤ c1_5) (hr1_6 : Kd.C Kd.string w A1_6 l1_6.length l1_6) (hc1_6 : l1_6.length ≤ c1_6) (hr1_7 : Kd.C k55 w A1_7 l1_7.length l1_7) (hc1_7 : l1_7.length ≤ c1_7) (h : laws_eqReplica.f k a0_0 a0_1 a0_2 a0_3 l0_4 l0_5 l0_6 l0_7 a1_0 a1_1 a1_2 a1_3 l1_4 l1_5 l1_6 l1_7 = some r) :
  Calls Try.prog 6 #[.agg #[.int .i64 a0_0,.int .i64 a0_1,.int .i64 a0_2,.bool a0_3,.slice A0_4 l0_4.length c0_4,.slice A0_5 l0_5.length c0_5,.slice A0_6 l0_6.length c0_6,.slice A0_7 l0_7.length c0_7],.agg #[.int .i64 a1_0,.int .i64 a1_1,.int .i64 a1_2,.bool a1_3,.slice A1_4 l1_4.length c1_4,.slice A1_5 l1_5.length c1_5,.slice A1_6 l1_6.length c1_6,.slice A1_7 l1_7.length c1_7]] w fun e w' => e = .returned (.bool r) ∧ Below w.heap.size w w' := by
 have hu27 := Try.underlying27
 have HR0_4 := am_ hr0_4
 have HC0_4 := am_ hc0_4
 clear hr0_4 hc0_4
 have HR0_5 := am_ hr0_5
 have HC0_5 := am_ hc0_5
 clear hr0_5 hc0_5
 have HR0_6 := am_ hr0_6
 have HC0_6 := am_ hc0_6
 clear hr0_6 hc0_6
 have HR0_7 := am_ hr0_7
 have HC0_7 := am_ hc0_7
 clear hr0_7 hc0_7
 have HR1_4 := am_ hr1_4
 have HC1_4 := am_ hc1_4
 clear hr1_4 hc1_4
 have HR1_5 := am_ hr1_5
 have HC1_5 := am_ hc1_5
 clear hr1_5 hc1_5
 have HR1_6 := am_ hr1_6
 have HC1_6 := am_ hc1_6
 clear hr1_6 hc1_6
 have HR1_7 := am_ hr1_7
 have HC1_7 := am_ hc1_7
 clear hr1_7 hc1_7
 have HB := am_ (Below.refl w.heap.size w)
 have H : (if a0_0 = a1_0 then (if a0_1 = a1_1 then (if a0_2 = a1_2 then (if (a0_3 != a1_3) = true then (some false) else ((laws_eqSlotS.f k l0_4 l1_4).bind fun t185 => (if t185 = true then ((laws_eqCertS.f k l0_5 l1_5).bind fun t186 => (if t186 = true then ((laws_eqStringS.f k l0_6 l1_6).bind fun t187 => (if t187 = true then ((laws_eqMessageS.f k l0_7 l1_7).bind fun t188 => (if t188 = true then (some true) else (some false))) else (some false))) else (some false))) else (some false)))) else (some false)) else (some false)) else (some false)) = some r := h
 clear h
 by_cases c3 : a0_0 = a1_0
 ·rw [if_pos c3] at H
  have c3b0 : (a0_0 == a1_0) = true := beq_iff_eq.mpr c3
  have c3b1 : (a0_0 != a1_0) = false := bne_eq_false_iff_eq.mpr c3
  clear c3
  by_cases c4 : a0_1 = a1_1
  ·rw [if_pos c4] at H
   have c4b0 : (a0_1 == a1_1) = true := beq_iff_eq.mpr c4
   have c4b1 : (a0_1 != a1_1) = false := bne_eq_false_iff_eq.mpr c4
   clear c4
   by_cases c5 : a0_2 = a1_2
   ·rw [if_pos c5] at H
    have c5b0 : (a0_2 == a1_2) = true := beq_iff_eq.mpr c5
    have c5b1 : (a0_2 != a1_2) = false := bne_eq_false_iff_eq.mpr c5
    clear c5
    by_cases c6 : (a0_3 != a1_3) = true
    ·rw [if_pos c6] at H
     have c6b0 : (a0_3 != a1_3) = true := c6
     (try (have c6b1 : decide (a0_3 = a1_3) = false := by simpa using c6))
     (try (have c6b2 : (a0_3 == a1_3) = false := by simpa using c6))
     (try (have c6b3 : ¬ (a0_3 = a1_3) := by simpa using c6))
     clear c6
     obtain rfl := Option.some.inj H
     go_enter Try.func6,Try.ntmps6
     go_wp2_with (first | ((with_reducible refine gate_dst (N := 2) rfl ?_);refine zbx (N := 2) (cs := #[.int .i64 a0_0,.int .i64 a0_1,.int .i64 a0_2,.bool a0_3,.slice A0_4 l0_4.length c0_4,.slice A0_5 l0_5.length c0_5,.slice A0_6 l0_6.length c0_6,.slice A0_7 l0_7.length c0_7]) (t := 27) ?_;intro gb183 hg w7 hbox hb;have BK183 := am_ (hbox);have GW183 := zw_ HB hg;have GE183 := zw_ HB hg;replace HB := zs_ HB hb;clear hb hbox hg) | ((with_reducible refine gate_dst (N := 3) rfl ?_);refine zbx (N := 3) (cs := #[.int .i64 a1_0,.int .i64 a1_1,.int .i64 a1_2,.bool a1_3,.slice A1_4 l1_4.length c1_4,.slice A1_5 l1_5.length c1_5,.slice A1_6 l1_6.length c1_6,.slice A1_7 l1_7.length c1_7]) (t := 27) ?_;intro gb184 hg w8 hbox hb;have BK184 := am_ (hbox);have GW184 := zw_ HB hg;have GE184 := zw_ HB hg;replace HB := zs_ HB hb;have NB183_184 := zl hg BK183;have NB184_183 := zg hg BK183;replace BK183 := zb BK183 hb;clear hb hbox hg;have hnb9 := NB183_184.out;have hnc9 := NB184_183.out;obtain ⟨hcz10_0,hcz10_1,hcz10_2,hcz10_3,hcz10_4,hcz10_5,hcz10_6,hcz10_7,hfz10_0,hfz10_1,hfz10_2,hfz10_3,hfz10_4,hfz10_5,hfz10_6,hfz10_7⟩ := zc8 BK183;obtain ⟨hcz11_0,hcz11_1,hcz11_2,hcz11_3,hcz11_4,hcz11_5,hcz11_6,hcz11_7,hfz11_0,hfz11_1,hfz11_2,hfz11_3,hfz11_4,hfz11_5,hfz11_6,hfz11_7⟩ := zc8 BK184))
     go_ret
     exact ⟨zt_,zl_ HB⟩
    ·rw [if_neg c6] at H
     have c6b0 : (a0_3 != a1_3) = false := by simpa using c6
     (try (have c6b1 : decide (a0_3 = a1_3) = true := by simpa using c6))
     (try (have c6b2 : (a0_3 == a1_3) = true := by simpa using c6))
     clear c6
     replace H := Option.bind_eq_some_iff.mp H
     obtain ⟨t185,A120,H⟩ := H
     try dsimp only at H
     have A12 := am_ A120
     clear A120
     by_cases c13 : t185 = true
     ·subst c13
      have H1 : ((laws_eqCertS.f k l0_5 l1_5).bind fun t186 => (if t186 = true then ((laws_eqStringS.f k l0_6 l1_6).bind fun t187 => (if t187 = true then ((laws_eqMessageS.f k l0_7 l1_7).bind fun t188 => (if t188 = true then (some true) else (some false))) else (some false))) else (some false))) = some r := by rw [if_pos rfl] at H;exact H
      clear H
      have H := H1
      clear H1
      replace H := Option.bind_eq_some_iff.mp H
      obtain ⟨t186,A140,H⟩ := H
      try dsimp only at H
      have A14 := am_ A140
      clear A140
      by_cases c15 : t186 = true
      ·subst c15
       have H1 : ((laws_eqStringS.f k l0_6 l1_6).bind fun t187 => (if t187 = true then ((laws_eqMessageS.f k l0_7 l1_7).bind fun t188 => (if t188 = true then (some true) else (some false))) else (some false))) = some r := by rw [if_pos rfl] at H;exact H
       clear H
       have H := H1
       clear H1
       replace H := Option.bind_eq_some_iff.mp H
       obtain ⟨t187,A160,H⟩ := H
       try dsimp only at H
       have A16 := am_ A160
       clear A160
       by_cases c17 : t187 = true
       ·subst c17
        have H1 : ((laws_eqMessageS.f k l0_7 l1_7).bind fun t188 => (if t188 = true then (some true) else (some false))) = some r := by rw [if_pos rfl] at H;exact H
        clear H
        have H := H1
        clear H1
        replace H := Option.bind_eq_some_iff.mp H
        obtain ⟨t188,A180,H⟩ := H
        try dsimp only at H
        have A18 := am_ A180
        clear A180
        by_cases c19 : t188 = true
        ·subst c19
         have H1 : (some true) = some r := by rw [if_pos rfl] at H;exact H
         clear H
         have H := H1
         clear H1
         obtain rfl := Option.some.inj H
         go_enter Try.func6,Try.ntmps6
         go_wp2_with (first | ((with_reducible refine gate_dst (N := 2) rfl ?_);refine zbx (N := 2) (cs := #[.int .i64 a0_0,.int .i64 a0_1,.int .i64 a0_2,.bool a0_3,.slice A0_4 l0_4.length c0_4,.slice A0_5 l0_5.length c0_5,.slice A0_6 l0_6.length c0_6,.slice A0_7 l0_7.length c0_7]) (t := 27) ?_;intro gb183 hg w20 hbox hb;have BK183 := am_ (hbox);have GW183 := zw_ HB hg;have GE183 := zw_ HB hg;replace HB := zs_ HB hb;clear hb hbox hg) | ((with_reducible refine gate_dst (N := 3) rfl ?_);refine zbx (N := 3) (cs := #[.int .i64 a1_0,.int .i64 a1_1,.int .i64 a1_2,.bool a1_3,.slice A1_4 l1_4.length c1_4,.slice A1_5 l1_5.length c1_5,.slice A1_6 l1_6.length c1_6,.slice A1_7 l1_7.length c1_7]) (t := 27) ?_;intro gb184 hg w21 hbox hb;have BK184 := am_ (hbox);have GW184 := zw_ HB hg;have GE184 := zw_ HB hg;replace HB := zs_ HB hb;have NB183_184 := zl hg BK183;have NB184_183 := zg hg BK183;replace BK183 := zb BK183 hb;clear hb hbox hg;have hnb22 := NB183_184.out;have hnc22 := NB184_183.out;obtain ⟨hcz23_0,hcz23_1,hcz23_2,hcz23_3,hcz23_4,hcz23_5,hcz23_6,hcz23_7,hfz23_0,hfz23_1,hfz23_2,hfz23_3,hfz23_4,hfz23_5,hfz23_6,hfz23_7⟩ := zc8 BK183;obtain ⟨hcz24_0,hcz24_1,hcz24_2,hcz24_3,hcz24_4,hcz24_5,hcz24_6,hcz24_7,hfz24_0,hfz24_1,hfz24_2,hfz24_3,hfz24_4,hfz24_5,hfz24_6,hfz24_7⟩ := zc8 BK184) | ((with_reducible refine gate_callee (f := 14) rfl ?_);refine zgl (some 29) Try.func14 #[.slice A0_4 l0_4.length c0_4,.slice A1_4 l1_4.length c1_4] ?_;(with_reducible refine (laws_eqSlotS.calls k _ _ l0_4 _ _ l1_4 true _ ?side1 ?side2 ?side3 ?side4 A12.out).mono ?_);(case side1 => exact zc_ HR0_4 HB);(case side2 => exact HC0_4.out);(case side3 => exact zc_ HR1_4 HB);(case side4 => exact HC1_4.out);rintro e w25 ⟨rfl,hb⟩;refine ⟨_,rfl,?_⟩;replace BK183 := zb BK183 hb;replace BK184 := zb BK184 hb;replace HB := zs_ HB hb;(try clear hb);(try clear hb2);(try clear hk);(try clear hi);obtain ⟨hcz26_0,hcz26_1,hcz26_2,hcz26_3,hcz26_4,hcz26_5,hcz26_6,hcz26_7,hfz26_0,hfz26_1,hfz26_2,hfz26_3,hfz26_4,hfz26_5,hfz26_6,hfz26_7⟩ := zc8 BK183;obtain ⟨hcz27_0,hcz27_1,hcz27_2,hcz27_3,hcz27_4,hcz27_5,hcz27_6,hcz27_7,hfz27_0,hfz27_1,hfz27_2,hfz27_3,hfz27_4,hfz27_5,hfz27_6,hfz27_7⟩ := zc8 BK184) | ((with_reducible refine gate_callee (f := 15) rfl ?_);refine zgl (some 35) Try.func15 #[.slice A0_5 l0_5.length c0_5,.slice A1_5 l1_5.length c1_5] ?_;(with_reducible refine (laws_eqCertS.calls k _ _ l0_5 _ _ l1_5 true _ ?side1 ?side2 ?side3 ?side4 A14.out).mono ?_);(case side1 => exact zc_ HR0_5 HB);(case side2 => exact HC0_5.out);(case side3 => exact zc_ HR1_5 HB);(case side4 => exact HC1_5.out);rintro e w28 ⟨rfl,hb⟩;refine ⟨_,rfl,?_⟩;replace BK183 := zb BK183 hb;replace BK184 := zb BK184 hb;replace HB := zs_ HB hb;(try clear hb);(try clear hb2);(try clear hk);(try clear hi);obtain ⟨hcz29_0,hcz29_1,hcz29_2,hcz29_3,hcz29_4,hcz29_5,hcz29_6,hcz29_7,hfz29_0,hfz29_1,hfz29_2,hfz29_3,hfz29_4,hfz29_5,hfz29_6,hfz29_7⟩ := zc8 BK183;obtain ⟨hcz30_0,hcz30_1,hcz30_2,hcz30_3,hcz30_4,hcz30_5,hcz30_6,hcz30_7,hfz30_0,hfz30_1,hfz30_2,hfz30_3,hfz30_4,hfz30_5,hfz30_6,hfz30_7⟩ := zc8 BK184) | ((with_reducible refine gate_callee (f := 16) rfl ?_);refine zgl (some 41) Try.func16 #[.slice A0_6 l0_6.length c0_6,.slice A1_6 l1_6.length c1_6] ?_;(with_reducible refine (laws_eqStringS.calls k _ _ l0_6 _ _ l1_6 true _ ?side1 ?side2 ?side3 ?side4 A16.out).mono ?_);(case side1 => exact zc_ HR0_6 HB);(case side2 => exact HC0_6.out);(case side3 => exact zc_ HR1_6 HB);(case side4 => exact HC1_6.out);rintro e w' ⟨rfl,⟨nd,rfl⟩⟩;refine ⟨_,rfl,?_⟩) | ((with_reducible refine gate_callee (f := 17) rfl ?_);refine zgl (some 47) Try.func17 #[.slice A0_7 l0_7.length c0_7,.slice A1_7 l1_7.length c1_7] ?_;(with_reducible refine (laws_eqMessageS.calls k _ _ l0_7 _ _ l1_7 true _ ?side1 ?side2 ?side3 ?side4 A18.out).mono ?_);(case side1 => repeat (first | exact (Kd.C_below HR0_7.out (zl_ HB)) | (with_reducible refine Kd.C_alloc ?_ _) | (with_reducible refine Kd.C_drewN ?_ _) | (with_reducible refine Kd.C_drew ?_)));(case side2 => exact HC0_7.out);(case side3 => repeat (first | exact (Kd.C_below HR1_7.out (zl_ HB)) | (with_reducible refine Kd.C_alloc ?_ _) | (with_reducible refine Kd.C_drewN ?_ _) | (with_reducible refine Kd.C_drew ?_)));(case side4 => exact HC1_7.out);rintro e w31 ⟨rfl,hb⟩;refine ⟨_,rfl,?_⟩;replace BK183 := zb BK183 hb;replace BK184 := zb BK184 hb;replace HB := zs_ HB hb;(try clear hb);(try clear hb2);(try clear hk);(try clear hi)))
         go_ret
         exact ⟨zt_,zl_ HB⟩
        ·replace c19 := Bool.eq_false_iff.mpr c19
         subst c19
         have H1 : (some false) = some r := by rw [if_neg (show ¬ (false = true) by decide)] at H;exact H
         clear H
         have H := H1
         clear H1
         obtain rfl := Option.some.inj H
         go_enter Try.func6,Try.ntmps6
         go_wp2_with (first | ((with_reducible refine gate_dst (N := 2) rfl ?_);refine zbx (N := 2) (cs := #[.int .i64 a0_0,.int .i64 a0_1,.int .i64 a0_2,.bool a0_3,.slice A0_4 l0_4.length c0_4,.slice A0_5 l0_5.length c0_5,.slice A0_6 l0_6.length c0_6,.slice A0_7 l0_7.length c0_7]) (t := 27) ?_;intro gb183 hg w32 hbox hb;have BK183 := am_ (hbox);have GW183 := zw_ HB hg;have GE183 := zw_ HB hg;replace HB := zs_ HB hb;clear hb hbox hg) | ((with_reducible refine gate_dst (N := 3) rfl ?_);refine zbx (N := 3) (cs := #[.int .i64 a1_0,.int .i64 a1_1,.int .i64 a1_2,.bool a1_3,.slice A1_4 l1_4.length c1_4,.slice A1_5 l1_5.length c1_5,.slice A1_6 l1_6.length c1_6,.slice A1_7 l1_7.length c1_7]) (t := 27) ?_;intro gb184 hg w33 hbox hb;have BK184 := am_ (hbox);have GW184 := zw_ HB hg;have GE184 := zw_ HB hg;replace HB := zs_ HB hb;have NB183_184 := zl hg BK183;have NB184_183 := zg hg BK183;replace BK183 := zb BK183 hb;clear hb hbox hg;have hnb34 := NB183_184.out;have hnc34 := NB184_183.out;obtain ⟨hcz35_0,hcz35_1,hcz35_2,hcz35_3,hcz35_4,hcz35_5,hcz35_6,hcz35_7,hfz35_0,hfz35_1,hfz35_2,hfz35_3,hfz35_4,hfz35_5,hfz35_6,hfz35_7⟩ := zc8 BK183;obtain ⟨hcz36_0,hcz36_1,hcz36_2,hcz36_3,hcz36_4,hcz36_5,hcz36_6,hcz36_7,hfz36_0,hfz36_1,hfz36_2,hfz36_3,hfz36_4,hfz36_5,hfz36_6,hfz36_7⟩ := zc8 BK184) | ((with_reducible refine gate_callee (f := 14) rfl ?_);refine zgl (some 29) Try.func14 #[.slice A0_4 l0_4.length c0_4,.slice A1_4 l1_4.length c1_4] ?_;(with_reducible refine (laws_eqSlotS.calls k _ _ l0_4 _ _ l1_4 true _ ?side1 ?side2 ?side3 ?side4 A12.out).mono ?_);(case side1 => exact zc_ HR0_4 HB);(case side2 => exact HC0_4.out);(case side3 => exact zc_ HR1_4 HB);(case side4 => exact HC1_4.out);rintro e w37 ⟨rfl,hb⟩;refine ⟨_,rfl,?_⟩;replace BK183 := zb BK183 hb;replace BK184 := zb BK184 hb;replace HB := zs_ HB hb;(try clear hb);(try clear hb2);(try clear hk);(try clear hi);obtain ⟨hcz38_0,hcz38_1,hcz38_2,hcz38_3,hcz38_4,hcz38_5,hcz38_6,hcz38_7,hfz38_0,hfz38_1,hfz38_2,hfz38_3,hfz38_4,hfz38_5,hfz38_6,hfz38_7⟩ := zc8 BK183;obtain ⟨hcz39_0,hcz39_1,hcz39_2,hcz39_3,hcz39_4,hcz39_5,hcz39_6,hcz39_7,hfz39_0,hfz39_1,hfz39_2,hfz39_3,hfz39_4,hfz39_5,hfz39_6,hfz39_7⟩ := zc8 BK184) | ((with_reducible refine gate_callee (f := 15) rfl ?_);refine zgl (some 35) Try.func15 #[.slice A0_5 l0_5.length c0_5,.slice A1_5 l1_5.length c1_5] ?_;(with_reducible refine (laws_eqCertS.calls k _ _ l0_5 _ _ l1_5 true _ ?side1 ?side2 ?side3 ?side4 A14.out).mono ?_);(case side1 => exact zc_ HR0_5 HB);(case side2 => exact HC0_5.out);(case side3 => exact zc_ HR1_5 HB);(case side4 => exact HC1_5.out);rintro e w40 ⟨rfl,hb⟩;refine ⟨_,rfl,?_⟩;replace BK183 := zb BK183 hb;replace BK184 := zb BK184 hb;replace HB := zs_ HB hb;(try clear hb);(try clear hb2);(try clear hk);(try clear hi);obtain ⟨hcz41_0,hcz41_1,hcz41_2,hcz41_3,hcz41_4,hcz41_5,hcz41_6,hcz41_7,hfz41_0,hfz41_1,hfz41_2,hfz41_3,hfz41_4,hfz41_5,hfz41_6,hfz41_7⟩ := zc8 BK183;obtain ⟨hcz42_0,hcz42_1,hcz42_2,hcz42_3,hcz42_4,hcz42_5,hcz42_6,hcz42_7,hfz42_0,hfz42_1,hfz42_2,hfz42_3,hfz42_4,hfz42_5,hfz42_6,hfz42_7⟩ := zc8 BK184) | ((with_reducible refine gate_callee (f := 16) rfl ?_);refine zgl (some 41) Try.func16 #[.slice A0_6 l0_6.length c0_6,.slice A1_6 l1_6.length c1_6] ?_;(with_reducible refine (laws_eqStringS.calls k _ _ l0_6 _ _ l1_6 true _ ?side1 ?side2 ?side3 ?side4 A16.out).mono ?_);(case side1 => exact zc_ HR0_6 HB);(case side2 => exact HC0_6.out);(case side3 => exact zc_ HR1_6 HB);(case side4 => exact HC1_6.out);rintro e w' ⟨rfl,⟨nd,rfl⟩⟩;refine ⟨_,rfl,?_⟩) | ((with_reducible refine gate_callee (f := 17) rfl ?_);refine zgl (some 47) Try.func17 #[.slice A0_7 l0_7.length c0_7,.slice A1_7 l1_7.length c1_7] ?_;(with_reducible refine (laws_eqMessageS.calls k _ _ l0_7 _ _ l1_7 false _ ?side1 ?side2 ?side3 ?side4 A18.out).mono ?_);(case side1 => repeat (first | exact (Kd.C_below HR0_7.out (zl_ HB)) | (with_reducible refine Kd.C_alloc ?_ _) | (with_reducible refine Kd.C_drewN ?_ _) | (with_reducible refine Kd.C_drew ?_)));(case side2 => exact HC0_7.out);(case side3 => repeat (first | exact (Kd.C_below HR1_7.out (zl_ HB)) | (with_reducible refine Kd.C_alloc ?_ _) | (with_reducible refine Kd.C_drewN ?_ _) | (with_reducible refine Kd.C_drew ?_)));(case side4 => exact HC1_7.out);rintro e w43 ⟨rfl,hb⟩;refine ⟨_,rfl,?_⟩;replace HB := zs_ HB hb;(try clear hb);(try clear hb2);(try clear hk);(try clear hi)))
         go_ret
         exact ⟨zt_,zl_ HB⟩
       ·replace c17 := Bool.eq_false_iff.mpr c17
        subst c17
        have H1 : (some false) = some r := by rw [if_neg (show ¬ (false = true) by decide)] at H;exact H
        clear H
        have H := H1
        clear H1
        obtain rfl := Option.some.inj H
        go_enter Try.func6,Try.ntmps6
        go_wp2_with (first | ((with_reducible refine gate_dst (N := 2) rfl ?_);refine zbx (N := 2) (cs := #[.int .i64 a0_0,.int .i64 a0_1,.int .i64 a0_2,.bool a0_3,.slice A0_4 l0_4.length c0_4,.slice A0_5 l0_5.length c0_5,.slice A0_6 l0_6.length c0_6,.slice A0_7 l0_7.length c0_7]) (t := 27) ?_;intro gb183 hg w44 hbox hb;have BK183 := am_ (hbox);have GW183 := zw_ HB hg;have GE183 := zw_ HB hg;replace HB := zs_ HB hb;clear hb hbox hg) | ((with_reducible refine gate_dst (N := 3) rfl ?_);refine zbx (N := 3) (cs := #[.int .i64 a1_0,.int .i64 a1_1,.int .i64 a1_2,.bool a1_3,.slice A1_4 l1_4.length c1_4,.slice A1_5 l1_5.length c1_5,.slice A1_6 l1_6.length c1_6,.slice A1_7 l1_7.length c1_7]) (t := 27) ?_;intro gb184 hg w45 hbox hb;have BK184 := am_ (hbox);have GW184 := zw_ HB hg;have GE184 := zw_ HB hg;replace HB := zs_ HB hb;have NB183_184 := zl hg BK183;have NB184_183 := zg hg BK183;replace BK183 := zb BK183 hb;clear hb hbox hg;have hnb46 := NB183_184.out;have hnc46 := NB184_183.out;obtain ⟨hcz47_0,hcz47_1,hcz47_2,hcz47_3,hcz47_4,hcz47_5,hcz47_6,hcz47_7,hfz47_0,hfz47_1,hfz47_2,hfz47_3,hfz47_4,hfz47_5,hfz47_6,hfz47_7⟩ := zc8 BK183;obtain ⟨hcz48_0,hcz48_1,hcz48_2,hcz48_3,hcz48_4,hcz48_5,hcz48_6,hcz48_7,hfz48_0,hfz48_1,hfz48_2,hfz48_3,hfz48_4,hfz48_5,hfz48_6,hfz48_7⟩ := zc8 BK184) | ((with_reducible refine gate_callee (f := 14) rfl ?_);refine zgl (some 29) Try.func14 #[.slice A0_4 l0_4.length c0_4,.slice A1_4 l1_4.length c1_4] ?_;(with_reducible refine (laws_eqSlotS.calls k _ _ l0_4 _ _ l1_4 true _ ?side1 ?side2 ?side3 ?side4 A12.out).mono ?_);(case side1 => exact zc_ HR0_4 HB);(case side2 => exact HC0_4.out);(case side3 => exact zc_ HR1_4 HB);(case side4 => exact HC1_4.out);rintro e w49 ⟨rfl,hb⟩;refine ⟨_,rfl,?_⟩;replace BK183 := zb BK183 hb;replace BK184 := zb BK184 hb;replace HB := zs_ HB hb;(try clear hb);(try clear hb2);(try clear hk);(try clear hi);obtain ⟨hcz50_0,hcz50_1,hcz50_2,hcz50_3,hcz50_4,hcz50_5,hcz50_6,hcz50_7,hfz50_0,hfz50_1,hfz50_2,hfz50_3,hfz50_4,hfz50_5,hfz50_6,hfz50_7⟩ := zc8 BK183;obtain ⟨hcz51_0,hcz51_1,hcz51_2,hcz51_3,hcz51_4,hcz51_5,hcz51_6,hcz51_7,hfz51_0,hfz51_1,hfz51_2,hfz51_3,hfz51_4,hfz51_5,hfz51_6,hfz51_7⟩ := zc8 BK184) | ((with_reducible refine gate_callee (f := 15) rfl ?_);refine zgl (some 35) Try.func15 #[.slice A0_5 l0_5.length c0_5,.slice A1_5 l1_5.length c1_5] ?_;(with_reducible refine (laws_eqCertS.calls k _ _ l0_5 _ _ l1_5 true _ ?side1 ?side2 ?side3 ?side4 A14.out).mono ?_);(case side1 => exact zc_ HR0_5 HB);(case side2 => exact HC0_5.out);(case side3 => exact zc_ HR1_5 HB);(case side4 => exact HC1_5.out);rintro e w52 ⟨rfl,hb⟩;refine ⟨_,rfl,?_⟩;replace BK183 := zb BK183 hb;replace BK184 := zb BK184 hb;replace HB := zs_ HB hb;(try clear hb);(try clear hb2);(try clear hk);(try clear hi);obtain ⟨hcz53_0,hcz53_1,hcz53_2,hcz53_3,hcz53_4,hcz53_5,hcz53_6,hcz53_7,hfz53_0,hfz53_1,hfz53_2,hfz53_3,hfz53_4,hfz53_5,hfz53_6,hfz53_7⟩ := zc8 BK183;obtain ⟨hcz54_0,hcz54_1,hcz54_2,hcz54_3,hcz54_4,hcz54_5,hcz54_6,hcz54_7,hfz54_0,hfz54_1,hfz54_2,hfz54_3,hfz54_4,hfz54_5,hfz54_6,hfz54_7⟩ := zc8 BK184) | ((with_reducible refine gate_callee (f := 16) rfl ?_);refine zgl (some 41) Try.func16 #[.slice A0_6 l0_6.length c0_6,.slice A1_6 l1_6.length c1_6] ?_;(with_reducible refine (laws_eqStringS.calls k _ _ l0_6 _ _ l1_6 false _ ?side1 ?side2 ?side3 ?side4 A16.out).mono ?_);(case side1 => exact zc_ HR0_6 HB);(case side2 => exact HC0_6.out);(case side3 => exact zc_ HR1_6 HB);(case side4 => exact HC1_6.out);rintro e w' ⟨rfl,⟨nd,rfl⟩⟩;refine ⟨_,rfl,?_⟩))
        go_ret
        exact ⟨zt_,zl_ HB⟩
      ·replace c15 := Bool.eq_false_iff.mpr c15
       subst c15
       have H1 : (some false) = some r := by rw [if_neg (show ¬ (false = true) by decide)] at H;exact H
       clear H
       have H := H1
       clear H1
       obtain rfl := Option.some.inj H
       go_enter Try.func6,Try.ntmps6
       go_wp2_with (first | ((with_reducible refine gate_dst (N := 2) rfl ?_);refine zbx (N := 2) (cs := #[.int .i64 a0_0,.int .i64 a0_1,.int .i64 a0_2,.bool a0_3,.slice A0_4 l0_4.length c0_4,.slice A0_5 l0_5.length c0_5,.slice A0_6 l0_6.length c0_6,.slice A0_7 l0_7.length c0_7]) (t := 27) ?_;intro gb183 hg w55 hbox hb;have BK183 := am_ (hbox);have GW183 := zw_ HB hg;have GE183 := zw_ HB hg;replace HB := zs_ HB hb;clear hb hbox hg) | ((with_reducible refine gate_dst (N := 3) rfl ?_);refine zbx (N := 3) (cs := #[.int .i64 a1_0,.int .i64 a1_1,.int .i64 a1_2,.bool a1_3,.slice A1_4 l1_4.length c1_4,.slice A1_5 l1_5.length c1_5,.slice A1_6 l1_6.length c1_6,.slice A1_7 l1_7.length c1_7]) (t := 27) ?_;intro gb184 hg w56 hbox hb;have BK184 := am_ (hbox);have GW184 := zw_ HB hg;have GE184 := zw_ HB hg;replace HB := zs_ HB hb;have NB183_184 := zl hg BK183;have NB184_183 := zg hg BK183;replace BK183 := zb BK183 hb;clear hb hbox hg;have hnb57 := NB183_184.out;have hnc57 := NB184_183.out;obtain ⟨hcz58_0,hcz58_1,hcz58_2,hcz58_3,hcz58_4,hcz58_5,hcz58_6,hcz58_7,hfz58_0,hfz58_1,hfz58_2,hfz58_3,hfz58_4,hfz58_5,hfz58_6,hfz58_7⟩ := zc8 BK183;obtain ⟨hcz59_0,hcz59_1,hcz59_2,hcz59_3,hcz59_4,hcz59_5,hcz59_6,hcz59_7,hfz59_0,hfz59_1,hfz59_2,hfz59_3,hfz59_4,hfz59_5,hfz59_6,hfz59_7⟩ := zc8 BK184) | ((with_reducible refine gate_callee (f := 14) rfl ?_);refine zgl (some 29) Try.func14 #[.slice A0_4 l0_4.length c0_4,.slice A1_4 l1_4.length c1_4] ?_;(with_reducible refine (laws_eqSlotS.calls k _ _ l0_4 _ _ l1_4 true _ ?side1 ?side2 ?side3 ?side4 A12.out).mono ?_);(case side1 => exact zc_ HR0_4 HB);(case side2 => exact HC0_4.out);(case side3 => exact zc_ HR1_4 HB);(case side4 => exact HC1_4.out);rintro e w60 ⟨rfl,hb⟩;refine ⟨_,rfl,?_⟩;replace BK183 := zb BK183 hb;replace BK184 := zb BK184 hb;replace HB := zs_ HB hb;(try clear hb);(try clear hb2);(try clear hk);(try clear hi);obtain ⟨hcz61_0,hcz61_1,hcz61_2,hcz61_3,hcz61_4,hcz61_5,hcz61_6,hcz61_7,hfz61_0,hfz61_1,hfz61_2,hfz61_3,hfz61_4,hfz61_5,hfz61_6,hfz61_7⟩ := zc8 BK183;obtain ⟨hcz62_0,hcz62_1,hcz62_2,hcz62_3,hcz62_4,hcz62_5,hcz62_6,hcz62_7,hfz62_0,hfz62_1,hfz62_2,hfz62_3,hfz62_4,hfz62_5,hfz62_6,hfz62_7⟩ := zc8 BK184) | ((with_reducible refine gate_callee (f := 15) rfl ?_);refine zgl (some 35) Try.func15 #[.slice A0_5 l0_5.length c0_5,.slice A1_5 l1_5.length c1_5] ?_;(with_reducible refine (laws_eqCertS.calls k _ _ l0_5 _ _ l1_5 false _ ?side1 ?side2 ?side3 ?side4 A14.out).mono ?_);(case side1 => exact zc_ HR0_5 HB);(case side2 => exact HC0_5.out);(case side3 => exact zc_ HR1_5 HB);(case side4 => exact HC1_5.out);rintro e w63 ⟨rfl,hb⟩;refine ⟨_,rfl,?_⟩;replace HB := zs_ HB hb;(try clear hb);(try clear hb2);(try clear hk);(try clear hi)))
       go_ret
       exact ⟨zt_,zl_ HB⟩
     ·replace c13 := Bool.eq_false_iff.mpr c13
      subst c13
      have H1 : (some false) = some r := by rw [if_neg (show ¬ (false = true) by decide)] at H;exact H
      clear H
      have H := H1
      clear H1
      obtain rfl := Option.some.inj H
      go_enter Try.func6,Try.ntmps6
      go_wp2_with (first | ((with_reducible refine gate_dst (N := 2) rfl ?_);refine zbx (N := 2) (cs := #[.int .i64 a0_0,.int .i64 a0_1,.int .i64 a0_2,.bool a0_3,.slice A0_4 l0_4.length c0_4,.slice A0_5 l0_5.length c0_5,.slice A0_6 l0_6.length c0_6,.slice A0_7 l0_7.length c0_7]) (t := 27) ?_;intro gb183 hg w64 hbox hb;have BK183 := am_ (hbox);have GW183 := zw_ HB hg;have GE183 := zw_ HB hg;replace HB := zs_ HB hb;clear hb hbox hg) | ((with_reducible refine gate_dst (N := 3) rfl ?_);refine zbx (N := 3) (cs := #[.int .i64 a1_0,.int .i64 a1_1,.int .i64 a1_2,.bool a1_3,.slice A1_4 l1_4.length c1_4,.slice A1_5 l1_5.length c1_5,.slice A1_6 l1_6.length c1_6,.slice A1_7 l1_7.length c1_7]) (t := 27) ?_;intro gb184 hg w65 hbox hb;have BK184 := am_ (hbox);have GW184 := zw_ HB hg;have GE184 := zw_ HB hg;replace HB := zs_ HB hb;have NB183_184 := zl hg BK183;have NB184_183 := zg hg BK183;replace BK183 := zb BK183 hb;clear hb hbox hg;have hnb66 := NB183_184.out;have hnc66 := NB184_183.out;obtain ⟨hcz67_0,hcz67_1,hcz67_2,hcz67_3,hcz67_4,hcz67_5,hcz67_6,hcz67_7,hfz67_0,hfz67_1,hfz67_2,hfz67_3,hfz67_4,hfz67_5,hfz67_6,hfz67_7⟩ := zc8 BK183;obtain ⟨hcz68_0,hcz68_1,hcz68_2,hcz68_3,hcz68_4,hcz68_5,hcz68_6,hcz68_7,hfz68_0,hfz68_1,hfz68_2,hfz68_3,hfz68_4,hfz68_5,hfz68_6,hfz68_7⟩ := zc8 BK184) | ((with_reducible refine gate_callee (f := 14) rfl ?_);refine zgl (some 29) Try.func14 #[.slice A0_4 l0_4.length c0_4,.slice A1_4 l1_4.length c1_4] ?_;(with_reducible refine (laws_eqSlotS.calls k _ _ l0_4 _ _ l1_4 false _ ?side1 ?side2 ?side3 ?side4 A12.out).mono ?_);(case side1 => exact zc_ HR0_4 HB);(case side2 => exact HC0_4.out);(case side3 => exact zc_ HR1_4 HB);(case side4 => exact HC1_4.out);rintro e w69 ⟨rfl,hb⟩;refine ⟨_,rfl,?_⟩;replace HB := zs_ HB hb;(try clear hb);(try clear hb2);(try clear hk);(try clear hi)))
      go_ret
      exact ⟨zt_,zl_ HB⟩
   ·rw [if_neg c5] at H
    have c5b0 : (a0_2 == a1_2) = false := beq_eq_false_iff_ne.mpr c5
    have c5b1 : (a0_2 != a1_2) = true := bne_iff_ne.mpr c5
    obtain rfl := Option.some.inj H
    go_enter Try.func6,Try.ntmps6
    go_wp2_with (first | ((with_reducible refine gate_dst (N := 2) rfl ?_);refine zbx (N := 2) (cs := #[.int .i64 a0_0,.int .i64 a0_1,.int .i64 a0_2,.bool a0_3,.slice A0_4 l0_4.length c0_4,.slice A0_5 l0_5.length c0_5,.slice A0_6 l0_6.length c0_6,.slice A0_7 l0_7.length c0_7]) (t := 27) ?_;intro gb183 hg w70 hbox hb;have BK183 := am_ (hbox);have GW183 := zw_ HB hg;have GE183 := zw_ HB hg;replace HB := zs_ HB hb;clear hb hbox hg) | ((with_reducible refine gate_dst (N := 3) rfl ?_);refine zbx (N := 3) (cs := #[.int .i64 a1_0,.int .i64 a1_1,.int .i64 a1_2,.bool a1_3,.slice A1_4 l1_4.length c1_4,.slice A1_5 l1_5.length c1_5,.slice A1_6 l1_6.length c1_6,.slice A1_7 l1_7.length c1_7]) (t := 27) ?_;intro gb184 hg w71 hbox hb;have BK184 := am_ (hbox);have GW184 := zw_ HB hg;have GE184 := zw_ HB hg;replace HB := zs_ HB hb;have NB183_184 := zl hg BK183;have NB184_183 := zg hg BK183;replace BK183 := zb BK183 hb;clear hb hbox hg;have hnb72 := NB183_184.out;have hnc72 := NB184_183.out;obtain ⟨hcz73_0,hcz73_1,hcz73_2,hcz73_3,hcz73_4,hcz73_5,hcz73_6,hcz73_7,hfz73_0,hfz73_1,hfz73_2,hfz73_3,hfz73_4,hfz73_5,hfz73_6,hfz73_7⟩ := zc8 BK183;obtain ⟨hcz74_0,hcz74_1,hcz74_2,hcz74_3,hcz74_4,hcz74_5,hcz74_6,hcz74_7,hfz74_0,hfz74_1,hfz74_2,hfz74_3,hfz74_4,hfz74_5,hfz74_6,hfz74_7⟩ := zc8 BK184))
    go_ret
    exact ⟨zt_,zl_ HB⟩
  ·rw [if_neg c4] at H
   have c4b0 : (a0_1 == a1_1) = false := beq_eq_false_iff_ne.mpr c4
   have c4b1 : (a0_1 != a1_1) = true := bne_iff_ne.mpr c4
   obtain rfl := Option.some.inj H
   go_enter Try.func6,Try.ntmps6
   go_wp2_with (first | ((with_reducible refine gate_dst (N := 2) rfl ?_);refine zbx (N := 2) (cs := #[.int .i64 a0_0,.int .i64 a0_1,.int .i64 a0_2,.bool a0_3,.slice A0_4 l0_4.length c0_4,.slice A0_5 l0_5.length c0_5,.slice A0_6 l0_6.length c0_6,.slice A0_7 l0_7.length c0_7]) (t := 27) ?_;intro gb183 hg w75 hbox hb;have BK183 := am_ (hbox);have GW183 := zw_ HB hg;have GE183 := zw_ HB hg;replace HB := zs_ HB hb;clear hb hbox hg) | ((with_reducible refine gate_dst (N := 3) rfl ?_);refine zbx (N := 3) (cs := #[.int .i64 a1_0,.int .i64 a1_1,.int .i64 a1_2,.bool a1_3,.slice A1_4 l1_4.length c1_4,.slice A1_5 l1_5.length c1_5,.slice A1_6 l1_6.length c1_6,.slice A1_7 l1_7.length c1_7]) (t := 27) ?_;intro gb184 hg w76 hbox hb;have BK184 := am_ (hbox);have GW184 := zw_ HB hg;have GE184 := zw_ HB hg;replace HB := zs_ HB hb;have NB183_184 := zl hg BK183;have NB184_183 := zg hg BK183;replace BK183 := zb BK183 hb;clear hb hbox hg;have hnb77 := NB183_184.out;have hnc77 := NB184_183.out;obtain ⟨hcz78_0,hcz78_1,hcz78_2,hcz78_3,hcz78_4,hcz78_5,hcz78_6,hcz78_7,hfz78_0,hfz78_1,hfz78_2,hfz78_3,hfz78_4,hfz78_5,hfz78_6,hfz78_7⟩ := zc8 BK183;obtain ⟨hcz79_0,hcz79_1,hcz79_2,hcz79_3,hcz79_4,hcz79_5,hcz79_6,hcz79_7,hfz79_0,hfz79_1,hfz79_2,hfz79_3,hfz79_4,hfz79_5,hfz79_6,hfz79_7⟩ := zc8 BK184))
   go_ret
   exact ⟨zt_,zl_ HB⟩
 ·rw [if_neg c3] at H
  have c3b0 : (a0_0 == a1_0) = false := beq_eq_false_iff_ne.mpr c3
  have c3b1 : (a0_0 != a1_0) = true := bne_iff_ne.mpr c3
  obtain rfl := Option.some.inj H
  go_enter Try.func6,Try.ntmps6
  go_wp2_with (first | ((with_reducible refine gate_dst (N := 2) rfl ?_);refine zbx (N := 2) (cs := #[.int .i64 a0_0,.int .i64 a0_1,.int .i64 a0_2,.bool a0_3,.slice A0_4 l0_4.length c0_4,.slice A0_5 l0_5.length c0_5,.slice A0_6 l0_6.length c0_6,.slice A0_7 l0_7.length c0_7]) (t := 27) ?_;intro gb183 hg w80 hbox hb;have BK183 := am_ (hbox);have GW183 := zw_ HB hg;have GE183 := zw_ HB hg;replace HB := zs_ HB hb;clear hb hbox hg) | ((with_reducible refine gate_dst (N := 3) rfl ?_);refine zbx (N := 3) (cs := #[.int .i64 a1_0,.int .i64 a1_1,.int .i64 a1_2,.bool a1_3,.slice A1_4 l1_4.length c1_4,.slice A1_5 l1_5.length c1_5,.slice A1_6 l1_6.length c1_6,.slice A1_7 l1_7.length c1_7]) (t := 27) ?_;intro gb184 hg w81 hbox hb;have BK184 := am_ (hbox);have GW184 := zw_ HB hg;have GE184 := zw_ HB hg;replace HB := zs_ HB hb;have NB183_184 := zl hg BK183;have NB184_183 := zg hg BK183;replace BK183 := zb BK183 hb;clear hb hbox hg;have hnb82 := NB183_184.out;have hnc82 := NB184_183.out;obtain ⟨hcz83_0,hcz83_1,hcz83_2,hcz83_3,hcz83_4,hcz83_5,hcz83_6,hcz83_7,hfz83_0,hfz83_1,hfz83_2,hfz83_3,hfz83_4,hfz83_5,hfz83_6,hfz83_7⟩ := zc8 BK183;obtain ⟨hcz84_0,hcz84_1,hcz84_2,hcz84_3,hcz84_4,hcz84_5,hcz84_6,hcz84_7,hfz84_0,hfz84_1,hfz84_2,hfz84_3,hfz84_4,hfz84_5,hfz84_6,hfz84_7⟩ := zc8 BK184))
  go_ret
  exact ⟨zt_,zl_ HB⟩
set_option maxHeartbeats 8000000 in
set_option maxRecDepth 100000 in
theorem spec_l01In.calls (a0 : Int) (a1 : Int) (a2 : Int) (r : Bool) (w : World) (h : spec_l01In.f a0 a1 a2 = some r) :
  Calls Try.prog 10 #[.int .i64 a0,.int .i64 a1,.int .i64 a2] w fun e w' => e = .returned (.bool r) ∧ Drawn0 w w' := by
 have H : (if a0 ≥ a1 then (some (decide (a0 ≤ a2))) else (some false)) = some r := h
 clear h
 by_cases c4 : a0 ≥ a1
 ·rw [if_pos c4] at H
  have c4b0 : decide (a1 ≤ a0) = true := decide_eq_true c4
  clear c4
  obtain rfl := Option.some.inj H
  go_enter Try.func10,Try.ntmps10
  go_wp2
  go_ret
  exact ⟨by first | rfl | (simp;done) | (simp [*];done),by repeat (first | exact Drawn0.refl _ | apply Drawn0.step)⟩
 ·rw [if_neg c4] at H
  have c4b0 : decide (a1 ≤ a0) = false := decide_eq_false c4
  clear c4
  obtain rfl := Option.some.inj H
  go_enter Try.func10,Try.ntmps10
  go_wp2
  go_ret
  exact ⟨by first | rfl | (simp;done) | (simp [*];done),by repeat (first | exact Drawn0.refl _ | apply Drawn0.step)⟩
set_option maxHeartbeats 8000000 in
set_option maxRecDepth 100000 in
theorem spec_l04Nodes.calls (a0 : Int) (r : Bool) (w : World) (h : spec_l04Nodes.f a0 = some r) :
  Calls Try.prog 9 #[.int .i64 a0] w fun e w' => e = .returned (.bool r) ∧ Drawn0 w w' := by
 have H : (if a0 = 1 then (some true) else (if a0 = 4 then (some true) else (some (a0 == 7)))) = some r := h
 clear h
 by_cases c2 : a0 = 1
 ·rw [if_pos c2] at H
  have c2b0 : (a0 == 1) = true := beq_iff_eq.mpr c2
  have c2b1 : (a0 != 1) = false := bne_eq_false_iff_eq.mpr c2
  clear c2
  obtain rfl := Option.some.inj H
  go_enter Try.func9,Try.ntmps9
  go_wp2
  go_ret
  exact ⟨by first | rfl | (simp;done) | (simp [*];done),by repeat (first | exact Drawn0.refl _ | apply Drawn0.step)⟩
 ·rw [if_neg c2] at H
  have c2b0 : (a0 == 1) = false := beq_eq_false_iff_ne.mpr c2
  have c2b1 : (a0 != 1) = true := bne_iff_ne.mpr c2
  by_cases c3 : a0 = 4
  ·rw [if_pos c3] at H
   have c3b0 : (a0 == 4) = true := beq_iff_eq.mpr c3
   have c3b1 : (a0 != 4) = false := bne_eq_false_iff_eq.mpr c3
   clear c3
   obtain rfl := Option.some.inj H
   go_enter Try.func9,Try.ntmps9
   go_wp2
   go_ret
   exact ⟨by first | rfl | (simp;done) | (simp [*];done),by repeat (first | exact Drawn0.refl _ | apply Drawn0.step)⟩
  ·rw [if_neg c3] at H
   have c3b0 : (a0 == 4) = false := beq_eq_false_iff_ne.mpr c3
   have c3b1 : (a0 != 4) = true := bne_iff_ne.mpr c3
   obtain rfl := Option.some.inj H
   go_enter Try.func9,Try.ntmps9
   go_wp2
   go_ret
   exact ⟨by first | rfl | (simp;done) | (simp [*];done),by repeat (first | exact Drawn0.refl _ | apply Drawn0.step)⟩
set_option maxHeartbeats 8000000 in
set_option maxRecDepth 100000 in
theorem spec_l07Slots.calls (k : Nat)  (r : List (S51)) (w : World) (h : spec_l07Slots.f k  = some r) :
  Calls Try.prog 26 #[] w fun e w' => ∃ v0_ : Value,e = .returned (v0_) ∧ Kd.S k51 51 w' w.heap.size (fun _ => True) v0_ r ∧ Below w.heap.size w w' := by
 have hu51 := Try.underlying51
 have HB := am_ (Below.refl w.heap.size w)
 have H : (spec_l07Slots.l0 k (([] : List (S51))) 0) = some r := h
 clear h
 obtain ⟨y101,hy101⟩ : ∃ y_ : List (S51),y_ = (([] : List (S51))) := ⟨_,rfl⟩
 replace H : (spec_l07Slots.l0 k y101 0) = some r := by first | (rw [hy101];with_reducible exact H) | (have H2_ := (Option.bind_some _ _).symm.trans H;rw [hy101];with_reducible exact H2_) | (have H2_ := (Option.bind_some _ _).symm.trans H;with_reducible exact H2_) | with_reducible exact H | (rw [hy101];exact H) | exact H
 have Ny101 := am_ hy101
 clear hy101
 have H' := am_ H
 clear H
 go_enter Try.func26,Try.ntmps26
 go_wp2_with (first | ((with_reducible refine gate_dst (N := 3) rfl ?_);refine Kd.S_lit k51 _ 51 ?hg (N := 3) ?hd (xs := ([] : List (S51))) (inner := []) (ok := fun _ => True) (okp := fun _ => True) ?hr ?hp (fun _ hk => hk) trivial (Below.refl _ _) (Nat.le_refl _) (by simp) ?_;(case hd => rfl);(case hg => rfl);(case hr => first | (go_simp;done) | (go_simp;rfl));(case hp => exact (Reps.none _ _));intro v102 w1 ho2 hb hg_ hnew_;clear hg_ hnew_;(first | rw [← Ny101.out] at ho2 | (simp only [Int.reduceToNat] at ho2;rw [← Ny101.out] at ho2));have HO103 := am_ (Kd.S_lower ho2 (below_size (zl_ HB)));replace HB := zs_ HB hb;clear hb ho2))
 go_loopg [1,2] k (fun kq v1 v2 w' => ∃ (x1_1 : List (S51)) (x2_1 : Int),v2 = .int .i64 x2_1 ∧ Aside0 (spec_l07Slots.l0 kq x1_1 x2_1 = some r) ∧ Aside0 (kq ≤ k) ∧ Aside0 (Kd.S k51 51 w' w.heap.size (fun _ => True) v1 x1_1) ∧ Aside0 (Below w.heap.size w w'))
 case atStart => exact ⟨(y101),(0),(by first | rfl | (simp;done) | (simp [*];done)),H',⟨Nat.le_refl _⟩,⟨by (with_reducible repeat (first | apply Kd.S_alloc | apply Kd.S_drewN | apply Kd.S_drew));exact HO103.out⟩,⟨zl_ HB⟩⟩
 case round =>
  clear H'
  try clear c2
  try clear p2
  obtain ⟨x1_1,x2_1,rfl,HA,HK1,HO_1,HB⟩ := hrel
  cases gk with
  | zero => exact absurd HA.out (by simp [spec_l07Slots.l0])
  | succ k1 =>
   have H := HA.out
   clear HA
   simp only [spec_l07Slots.l0] at H
   by_cases c3 : x2_1 < 8
   ·rw [if_pos c3] at H
    have c3b0 : decide (x2_1 < 8) = true := decide_eq_true c3
    clear c3
    obtain ⟨y104,hy104⟩ : ∃ y_ : List (S55),y_ = (([] : List (S55))) := ⟨_,rfl⟩
    replace H : (if x1_1.length < 1954687338268 then (spec_l07Slots.l0 k1 (x1_1 ++ [(⟨(⟨#[]⟩ : ByteArray),y104,(([] : List (S55))),false,false⟩ : S51)]) (wrap64 (x2_1 + 1))) else (none)) = some r := by first | (rw [hy104];with_reducible exact H) | (have H2_ := (Option.bind_some _ _).symm.trans H;rw [hy104];with_reducible exact H2_) | (have H2_ := (Option.bind_some _ _).symm.trans H;with_reducible exact H2_) | with_reducible exact H | (rw [hy104];exact H) | exact H
    have Ny104 := am_ hy104
    clear hy104
    obtain ⟨y107,hy107⟩ : ∃ y_ : List (S55),y_ = (([] : List (S55))) := ⟨_,rfl⟩
    replace H : (if x1_1.length < 1954687338268 then (spec_l07Slots.l0 k1 (x1_1 ++ [(⟨(⟨#[]⟩ : ByteArray),y104,y107,false,false⟩ : S51)]) (wrap64 (x2_1 + 1))) else (none)) = some r := by first | (rw [hy107];with_reducible exact H) | (have H2_ := (Option.bind_some _ _).symm.trans H;rw [hy107];with_reducible exact H2_) | (have H2_ := (Option.bind_some _ _).symm.trans H;with_reducible exact H2_) | with_reducible exact H | (rw [hy107];exact H) | exact H
    have Ny107 := am_ hy107
    clear hy107
    by_cases c4 : x1_1.length < 1954687338268
    ·rw [if_pos c4] at H
     have LMc4 := am_ c4
     clear c4
     obtain ⟨y110,hy110⟩ : ∃ y_ : List (S51),y_ = (x1_1 ++ [(⟨(⟨#[]⟩ : ByteArray),y104,y107,false,false⟩ : S51)]) := ⟨_,rfl⟩
     replace H : (spec_l07Slots.l0 k1 y110 (wrap64 (x2_1 + 1))) = some r := by first | (rw [hy110];with_reducible exact H) | (have H2_ := (Option.bind_some _ _).symm.trans H;rw [hy110];with_reducible exact H2_) | (have H2_ := (Option.bind_some _ _).symm.trans H;with_reducible exact H2_) | with_reducible exact H | (rw [hy110];exact H) | exact H
     have Ny110 := am_ hy110
     clear hy110
     have H' := am_ H
     clear H
     go_wp2_with (first | ((with_reducible refine gate_dst (N := 9) rfl ?_);refine Kd.R_lit k55 _ 55 ?hg (N := 9) ?hd (xs := ([] : List (S55))) (inner := []) (ok := fun _ => True) (okp := fun _ => True) ?hr ?hp (fun _ hk => hk) trivial (Below.refl _ _) (Nat.le_refl _) (by simp) ?_;(case hd => rfl);(case hg => rfl);(case hr => first | (go_simp;done) | (go_simp;rfl));(case hp => exact (Reps.none _ _));intro v105 w5 ho6 hb hg_ hnew_;clear hg_ hnew_;(first | rw [← Ny104.out] at ho6 | (simp only [Int.reduceToNat] at ho6;rw [← Ny104.out] at ho6));replace HO_1 := am_ (Kd.S_elder' (by (with_reducible repeat (first | apply Kd.S_alloc | apply Kd.S_drewN | apply Kd.S_drew));exact HO_1.out) (Kd.R_base ho6) hb);have HO106 := am_ (Kd.R_lower ho6 (below_size (zl_ HB)));replace HB := zs_ HB hb;clear hb ho6) | ((with_reducible refine gate_dst (N := 10) rfl ?_);refine Kd.R_lit k55 _ 55 ?hg (N := 10) ?hd (xs := ([] : List (S55))) (inner := []) (ok := fun _ => True) (okp := fun _ => True) ?hr ?hp (fun _ hk => hk) trivial (Below.refl _ _) (Nat.le_refl _) (by simp) ?_;(case hd => rfl);(case hg => rfl);(case hr => first | (go_simp;done) | (go_simp;rfl));(case hp => exact (Reps.none _ _));intro v108 w7 ho8 hb hg_ hnew_;clear hg_ hnew_;(first | rw [← Ny107.out] at ho8 | (simp only [Int.reduceToNat] at ho8;rw [← Ny107.out] at ho8));replace HO_1 := am_ (Kd.S_elder' (by (with_reducible repeat (first | apply Kd.S_alloc | apply Kd.S_drewN | apply Kd.S_drew));exact HO_1.out) (Kd.R_base ho8) hb);have HO109 := am_ (Kd.R_lower (Kd.R_new' ho8 (Kd.R_lt (zr HO106))) (below_size (zl_ HB)));replace HO106 := am_ (Kd.R_elder' (zr HO106) (Kd.R_base ho8) hb);replace HB := zs_ HB hb;clear hb ho8;obtain ⟨Ao9,co9,eo9⟩ := Kd.R_slice HO109.out;subst eo9;obtain ⟨Ao10,co10,eo10⟩ := Kd.R_slice HO106.out;subst eo10) | ((with_reducible refine gate_builtin (b := .append) (xs := #[.tmp 8,.tmp 12]) rfl ?_);at_builtin;refine Kd.S_append k51 (w0 := w) w.heap.size rfl (.tmp 8) (.tmp 12) 22 51 (.agg #[(.string ⟨#[]⟩),(.slice none 0 0),(.slice none 0 0),(.bool false),(.bool false)]) 72 rfl Try.underlying22 info51 rfl (by decide) (by omega) u1 x1_1 (⟨(⟨#[]⟩ : ByteArray),y104,y107,false,false⟩ : S51) [.string ⟨#[]⟩,.slice Ao10 y104.length co10,.slice Ao9 y107.length co9,.bool false,.bool false] (fun _ => True) (fun k_ => some k_ = (.slice Ao10 y104.length co10 : Value).ownBlock ∨ some k_ = (.slice Ao9 y107.length co9 : Value).ownBlock) rfl rfl ?aP (fun k_ hk_ => hk_.elim (fun h_ => ((Kd.R_mono (ok' := fun k_ => ((fun _ => True)) k_ ∧ some k_ ≠ (u1 : Value).ownBlock) (Kd.R_apart' (HO106.out) (Kd.S_typed HO_1.out) (by decide)) (fun k_ hk => ⟨trivial,hk.2⟩))).1 k_ h_.symm) (fun h_ => ((Kd.R_mono (ok' := fun k_ => ((fun _ => True)) k_ ∧ some k_ ≠ (u1 : Value).ownBlock) (Kd.R_apart' (HO109.out) (Kd.S_typed HO_1.out) (by decide)) (fun k_ hk => ⟨trivial,hk.2⟩))).1 k_ h_.symm)) ?aF ?aO ?aB ?aS ?aL ?_;(case aP => exact k51_mkM _ _ _ (⟨(⟨#[]⟩ : ByteArray),y104,y107,false,false⟩ : S51) (Kd.R_mono (Kd.R_tight rfl (Kd.R_mono (ok' := fun k_ => ((fun _ => True)) k_ ∧ some k_ ≠ (u1 : Value).ownBlock) (Kd.R_apart' (HO106.out) (Kd.S_typed HO_1.out) (by decide)) (fun k_ hk => ⟨trivial,hk.2⟩))) (fun _ h_ => Or.inl h_)) (Kd.R_mono (Kd.R_tight rfl (Kd.R_mono (ok' := fun k_ => ((fun _ => True)) k_ ∧ some k_ ≠ (u1 : Value).ownBlock) (Kd.R_apart' (HO109.out) (Kd.S_typed HO_1.out) (by decide)) (fun k_ hk => ⟨trivial,hk.2⟩))) (fun _ h_ => Or.inr (h_))));(case aB => exact (zl_ HB));(case aF => exact (fun _ _ => trivial));(case aO => exact (by (with_reducible repeat (first | apply Kd.S_alloc | apply Kd.S_drewN | apply Kd.S_drew));exact Kd.S_mono HO_1.out (fun k_ hk => ⟨trivial,fun e_ => e_.elim (fun h_ => hk.1.2 h_) (fun h_ => hk.2 h_)⟩)));(case aS => exact (below_size (zl_ HB)));(case aL => have := LMc4.out;omega);intro v111 w11 ho hb hg hat;rw [← Ny110.out] at ho;replace HB := am_ (hb);have HO112 := am_ (ho);clear HO_1;clear HO106;clear HO109;clear ho hb hg hat))
     go_roundg k1
     case measure => have := HK1.out;omega
     case rel => exact ⟨(y110),(wrap64 (x2_1 + 1)),(by first | rfl | (simp;done) | (simp [*];done)),H',⟨by have := HK1.out;omega⟩,⟨by (with_reducible repeat (first | apply Kd.S_alloc | apply Kd.S_drewN | apply Kd.S_drew));exact HO112.out⟩,⟨zl_ HB⟩⟩
    ·rw [if_neg c4] at H
     exact absurd H (by simp)
   ·rw [if_neg c3] at H
    have c3b0 : decide (x2_1 < 8) = false := decide_eq_false c3
    clear c3
    obtain rfl := Option.some.inj H
    go_wp2
    go_ret
    exact ⟨_,zt_,by (with_reducible repeat (first | apply Kd.S_alloc | apply Kd.S_drewN | apply Kd.S_drew));exact HO_1.out,zl_ HB⟩
set_option maxHeartbeats 8000000 in
set_option maxRecDepth 100000 in
theorem spec_l07New.calls (k : Nat) (a0 : Int) (a1 : Int) (r1 : Int) (r2 : Int) (r3 : Int) (r4 : Bool) (r5 : List (S51)) (r6 : List (S46)) (r7 : List ByteArray) (r8 : List (S55)) (w : World) (h : spec_l07New.f k a0 a1 = some (r1,r2,r3,r4,r5,r6,r7,r8)) :
  Calls Try.prog 11 #[.int .i64 a0,.int .i64 a1] w fun e w' => ∃ v4_ v5_ v6_ v7_ : Value,e = .returned (.agg #[.int .i64 r1,.int .i64 r2,.int .i64 r3,.bool r4,v4_,v5_,v6_,v7_]) ∧ Kd.S k51 51 w' w.heap.size (fun k_ => some k_ ≠ (v7_ : Value).ownBlock) v4_ r5 ∧ Kd.S k46 46 w' w.heap.size (fun k_ => some k_ ≠ (v7_ : Value).ownBlock) v5_ r6 ∧ Kd.R Kd.string 9 w' w.heap.size (fun _ => True) v6_ r7 ∧ Kd.R k55 55 w' w.heap.size (fun _ => True) v7_ r8 ∧ Below w.heap.size w w' := by
 have hu27 := Try.underlying27
 have hu46 := Try.underlying46
 have HB := am_ (Below.refl w.heap.size w)
 have H : ((spec_l07Slots.f k).bind fun t114 => (spec_l07New.l0 k 0 a0 a1 0 true t114 (([] : List (S46))) (([] : List ByteArray)) (([] : List (S55))))) = some (r1,r2,r3,r4,r5,r6,r7,r8) := h
 clear h
 replace H := Option.bind_eq_some_iff.mp H
 obtain ⟨t114,A30,H⟩ := H
 try dsimp only at H
 have A3 := am_ A30
 clear A30
 obtain ⟨y117,hy117⟩ : ∃ y_ : List (S46),y_ = (([] : List (S46))) := ⟨_,rfl⟩
 replace H : (spec_l07New.l0 k 0 a0 a1 0 true t114 y117 (([] : List ByteArray)) (([] : List (S55)))) = some (r1,r2,r3,r4,r5,r6,r7,r8) := by first | (rw [hy117];with_reducible exact H) | (have H2_ := (Option.bind_some _ _).symm.trans H;rw [hy117];with_reducible exact H2_) | (have H2_ := (Option.bind_some _ _).symm.trans H;with_reducible exact H2_) | with_reducible exact H | (rw [hy117];exact H) | exact H
 have Ny117 := am_ hy117
 clear hy117
 obtain ⟨y120,hy120⟩ : ∃ y_ : List ByteArray,y_ = (([] : List ByteArray)) := ⟨_,rfl⟩
 replace H : (spec_l07New.l0 k 0 a0 a1 0 true t114 y117 y120 (([] : List (S55)))) = some (r1,r2,r3,r4,r5,r6,r7,r8) := by first | (rw [hy120];with_reducible exact H) | (have H2_ := (Option.bind_some _ _).symm.trans H;rw [hy120];with_reducible exact H2_) | (have H2_ := (Option.bind_some _ _).symm.trans H;with_reducible exact H2_) | with_reducible exact H | (rw [hy120];exact H) | exact H
 have Ny120 := am_ hy120
 clear hy120
 obtain ⟨y123,hy123⟩ : ∃ y_ : List (S55),y_ = (([] : List (S55))) := ⟨_,rfl⟩
 replace H : (spec_l07New.l0 k 0 a0 a1 0 true t114 y117 y120 y123) = some (r1,r2,r3,r4,r5,r6,r7,r8) := by first | (rw [hy123];with_reducible exact H) | (have H2_ := (Option.bind_some _ _).symm.trans H;rw [hy123];with_reducible exact H2_) | (have H2_ := (Option.bind_some _ _).symm.trans H;with_reducible exact H2_) | with_reducible exact H | (rw [hy123];exact H) | exact H
 have Ny123 := am_ hy123
 clear hy123
 have H' := am_ H
 clear H
 go_enter Try.func11,Try.ntmps11
 go_wp2_with (first | ((with_reducible refine gate_dst (N := 4) rfl ?_);refine zbx (N := 4) (cs := #[.int .i64 0,.int .i64 0,.int .i64 0,.bool false,.slice none 0 0,.slice none 0 0,.slice none 0 0,.slice none 0 0]) (t := 27) ?_;intro gb113 hg w4 hbox hb;have BK113 := am_ (hbox);have GW113 := zw_ HB hg;have GE113 := zw_ HB hg;replace HB := zs_ HB hb;clear hb hbox hg) | ((with_reducible refine gate_callee (f := 26) rfl ?_);refine zgl (some 9) Try.func26 #[] ?_;(with_reducible refine (spec_l07Slots.calls k  t114 _ A3.out).mono ?_);rintro e w5 ⟨v115,rfl,ho0,hb⟩;refine ⟨_,rfl,?_⟩;have HO116 := am_ (Kd.S_lower ho0 (below_size (zl_ HB)));replace BK113 := zb BK113 hb;replace HB := zs_ HB hb;(try clear hb);(try clear hb2);(try clear hk);(try clear hi);(try clear ho0)) | ((with_reducible refine gate_dst (N := 10) rfl ?_);refine Kd.S_lit k46 _ 46 ?hg (N := 10) ?hd (xs := ([] : List (S46))) (inner := []) (ok := fun _ => True) (okp := fun _ => True) ?hr ?hp (fun _ hk => hk) trivial (Below.refl _ _) (Nat.le_refl _) (by simp) ?_;(case hd => rfl);(case hg => rfl);(case hr => first | (go_simp;done) | (go_simp;rfl));(case hp => exact (Reps.none _ _));intro v118 w6 ho7 hb hg_ hnew_;clear hg_ hnew_;(first | rw [← Ny117.out] at ho7 | (simp only [Int.reduceToNat] at ho7;rw [← Ny117.out] at ho7));replace HO116 := am_ (Kd.S_below (by (with_reducible repeat (first | apply Kd.S_alloc | apply Kd.S_drewN | apply Kd.S_drew));exact HO116.out) hb);have HO119 := am_ (Kd.S_lower ho7 (below_size (zl_ HB)));replace BK113 := zb BK113 hb;replace HB := zs_ HB hb;clear hb ho7) | ((with_reducible refine gate_dst (N := 11) rfl ?_);refine Kd.R_lit Kd.string _ 9 ?hg (N := 11) ?hd (xs := ([] : List ByteArray)) (inner := []) (ok := fun _ => True) (okp := fun _ => True) ?hr ?hp (fun _ hk => hk) trivial (Below.refl _ _) (Nat.le_refl _) (by simp) ?_;(case hd => rfl);(case hg => rfl);(case hr => first | (go_simp;done) | (go_simp;rfl));(case hp => exact (Reps.none _ _));intro v121 w8 ho9 hb hg_ hnew_;clear hg_ hnew_;(first | rw [← Ny120.out] at ho9 | (simp only [Int.reduceToNat] at ho9;rw [← Ny120.out] at ho9));replace HO116 := am_ (Kd.S_below (by (with_reducible repeat (first | apply Kd.S_alloc | apply Kd.S_drewN | apply Kd.S_drew));exact HO116.out) hb);replace HO119 := am_ (Kd.S_below (by (with_reducible repeat (first | apply Kd.S_alloc | apply Kd.S_drewN | apply Kd.S_drew));exact HO119.out) hb);have HO122 := am_ (Kd.R_lower ho9 (below_size (zl_ HB)));replace BK113 := zb BK113 hb;replace HB := zs_ HB hb;clear hb ho9) | ((with_reducible refine gate_dst (N := 12) rfl ?_);refine Kd.R_lit k55 _ 55 ?hg (N := 12) ?hd (xs := ([] : List (S55))) (inner := []) (ok := fun _ => True) (okp := fun _ => True) ?hr ?hp (fun _ hk => hk) trivial (Below.refl _ _) (Nat.le_refl _) (by simp) ?_;(case hd => rfl);(case hg => rfl);(case hr => first | (go_simp;done) | (go_simp;rfl));(case hp => exact (Reps.none _ _));intro v124 w10 ho11 hb hg_ hnew_;clear hg_ hnew_;(first | rw [← Ny123.out] at ho11 | (simp only [Int.reduceToNat] at ho11;rw [← Ny123.out] at ho11));replace HO116 := am_ (Kd.S_elder' (by (with_reducible repeat (first | apply Kd.S_alloc | apply Kd.S_drewN | apply Kd.S_drew));exact HO116.out) (Kd.R_base ho11) hb);replace HO119 := am_ (Kd.S_elder' (by (with_reducible repeat (first | apply Kd.S_alloc | apply Kd.S_drewN | apply Kd.S_drew));exact HO119.out) (Kd.R_base ho11) hb);replace HO122 := zrb HO122 hb;have HO125 := am_ (Kd.R_lower ho11 (below_size (zl_ HB)));replace BK113 := zb BK113 hb;replace HB := zs_ HB hb;clear hb ho11;obtain ⟨Ao12,co12,eo12⟩ := Kd.R_slice HO125.out;subst eo12;obtain ⟨Ao13,co13,eo13⟩ := Kd.R_slice HO122.out;subst eo13;obtain ⟨Ao14,co14,eo14⟩ := Kd.S_slice HO119.out;subst eo14;obtain ⟨Ao15,co15,eo15⟩ := Kd.S_slice HO116.out;subst eo15) | ((with_reducible refine gate_dst (N := 5) rfl ?_);refine zbx (N := 5) (cs := #[.int .i64 0,.int .i64 0,.int .i64 0,.bool false,.slice none 0 0,.slice none 0 0,.slice none 0 0,.slice none 0 0]) (t := 27) ?_;intro gb126 hg w16 hbox hb;replace HO116 := am_ (Kd.S_below (by (with_reducible repeat (first | apply Kd.S_alloc | apply Kd.S_drewN | apply Kd.S_drew));exact HO116.out) hb);replace HO119 := am_ (Kd.S_below (by (with_reducible repeat (first | apply Kd.S_alloc | apply Kd.S_drewN | apply Kd.S_drew));exact HO119.out) hb);replace HO122 := zrb HO122 hb;replace HO125 := zrb HO125 hb;have BK126 := am_ (hbox);have GW126 := zw_ HB hg;have GE126 := zw_ HB hg;replace HB := zs_ HB hb;have NB113_126 := zl hg BK113;have NB126_113 := zg hg BK113;replace BK113 := zb BK113 hb;clear hb hbox hg;have hnb17 := NB126_113.out;have hnc17 := NB113_126.out;obtain ⟨hcz18_0,hcz18_1,hcz18_2,hcz18_3,hcz18_4,hcz18_5,hcz18_6,hcz18_7,hfz18_0,hfz18_1,hfz18_2,hfz18_3,hfz18_4,hfz18_5,hfz18_6,hfz18_7⟩ := zc8 BK126))
 go_loopg [6] k (fun kq v6 w' => ∃ (x6_1 : Int) (x127005_1 : List (S46)) (u127005 : Value),v6 = .int .i64 x6_1 ∧ Aside0 (spec_l07New.l0 kq x6_1 a0 a1 0 true t114 x127005_1 y120 y123 = some (r1,r2,r3,r4,r5,r6,r7,r8)) ∧ Aside0 (kq ≤ k) ∧ Aside0 (Kd.S k51 51 w' w.heap.size (fun k_ => some k_ ≠ ((.slice Ao12 y123.length co12) : Value).ownBlock) (.slice Ao15 t114.length co15) t114) ∧ Aside0 (Kd.S k46 46 w' w.heap.size (fun k_ => some k_ ≠ ((.slice Ao12 y123.length co12) : Value).ownBlock) u127005 x127005_1) ∧ Aside0 (Kd.R Kd.string 9 w' w.heap.size (fun _ => True) (.slice Ao13 y120.length co13) y120) ∧ Aside0 (Kd.R k55 55 w' w.heap.size (fun _ => True) (.slice Ao12 y123.length co12) y123) ∧ Aside0 (w'.heap[gb113]? = some (.cells #[.int .i64 0,.int .i64 0,.int .i64 0,.bool false,(.slice none 0 0),(.slice none 0 0),(.slice none 0 0),(.slice none 0 0)] 27 (0,0))) ∧ Aside0 (w'.heap[gb126]? = some (.cells #[.int .i64 a0,.int .i64 a1,.int .i64 0,.bool true,(.slice Ao15 t114.length co15),u127005,(.slice Ao13 y120.length co13),(.slice Ao12 y123.length co12)] 27 (0,0))) ∧ Aside0 (Below w.heap.size w w'))
 case atStart => exact ⟨(0),(y117),(.slice Ao14 y117.length co14),(by first | rfl | (simp;done) | (simp [*];done)),H',⟨Nat.le_refl _⟩,⟨by (with_reducible repeat (first | apply Kd.S_alloc | apply Kd.S_drewN | apply Kd.S_drew));exact Kd.S_mono (Kd.S_far (p := ⟨gb126,7,none⟩) (Kd.S_far (p := ⟨gb126,6,none⟩) (Kd.S_far (p := ⟨gb126,5,none⟩) (Kd.S_far (p := ⟨gb126,4,none⟩) (Kd.S_far (p := ⟨gb126,3,none⟩) (Kd.S_far (p := ⟨gb126,2,none⟩) (Kd.S_far (p := ⟨gb126,1,none⟩) (Kd.S_far (p := ⟨gb126,0,none⟩) (Kd.S_types HO116.out BK126.out (by decide)) (fun _ hk => hk.2) (.int .i64 a0)) (fun _ hk => hk.2) (.int .i64 a1)) (fun _ hk => hk.2) (.int .i64 0)) (fun _ hk => hk.2) (.bool true)) (fun _ hk => hk.2) (.slice Ao15 t114.length co15)) (fun _ hk => hk.2) (.slice Ao14 y117.length co14)) (fun _ hk => hk.2) (.slice Ao13 y120.length co13)) (fun _ hk => hk.2) (.slice Ao12 y123.length co12)) (fun _ hk => hk.1.2)⟩,⟨by (with_reducible repeat (first | apply Kd.S_alloc | apply Kd.S_drewN | apply Kd.S_drew));exact Kd.S_mono (Kd.S_far (p := ⟨gb126,7,none⟩) (Kd.S_far (p := ⟨gb126,6,none⟩) (Kd.S_far (p := ⟨gb126,5,none⟩) (Kd.S_far (p := ⟨gb126,4,none⟩) (Kd.S_far (p := ⟨gb126,3,none⟩) (Kd.S_far (p := ⟨gb126,2,none⟩) (Kd.S_far (p := ⟨gb126,1,none⟩) (Kd.S_far (p := ⟨gb126,0,none⟩) (Kd.S_types HO119.out BK126.out (by decide)) (fun _ hk => hk.2) (.int .i64 a0)) (fun _ hk => hk.2) (.int .i64 a1)) (fun _ hk => hk.2) (.int .i64 0)) (fun _ hk => hk.2) (.bool true)) (fun _ hk => hk.2) (.slice Ao15 t114.length co15)) (fun _ hk => hk.2) (.slice Ao14 y117.length co14)) (fun _ hk => hk.2) (.slice Ao13 y120.length co13)) (fun _ hk => hk.2) (.slice Ao12 y123.length co12)) (fun _ hk => hk.1.2)⟩,⟨by (with_reducible repeat (first | apply r1_ | apply r2_ | apply r3_));exact Kd.R_mono (zrf (Kd.R_types HO122.out BK126.out (by decide))) (fun _ hk => trivial)⟩,⟨by (with_reducible repeat (first | apply r1_ | apply r2_ | apply r3_));exact Kd.R_mono (zrf (Kd.R_types HO125.out BK126.out (by decide))) (fun _ hk => trivial)⟩,⟨zq BK113⟩,⟨zq BK126⟩,⟨zl_ HB⟩⟩
 case round =>
  clear H'
  try clear c1
  try clear c2
  try clear p2
  try clear c11
  try clear c17
  try clear hcz18_0
  try clear hcz18_1
  try clear hcz18_2
  try clear hcz18_3
  try clear hcz18_4
  try clear hcz18_5
  try clear hcz18_6
  try clear hcz18_7
  try clear hfz18_0
  try clear hfz18_1
  try clear hfz18_2
  try clear hfz18_3
  try clear hfz18_4
  try clear hfz18_5
  try clear hfz18_6
  try clear hfz18_7
  obtain ⟨x6_1,x127005_1,u127005,rfl,HA,HK1,HO_127004,HO_127005,HO_127006,HO_127007,BK113,BK126,HB⟩ := hrel
  cases gk with
  | zero => exact absurd HA.out (by simp [spec_l07New.l0])
  | succ k1 =>
   have H := HA.out
   clear HA
   simp only [spec_l07New.l0] at H
   by_cases c19 : x6_1 < 8
   ·rw [if_pos c19] at H
    have c19b0 : decide (x6_1 < 8) = true := decide_eq_true c19
    clear c19
    obtain ⟨y127,hy127⟩ : ∃ y_ : List (S55),y_ = (([] : List (S55))) := ⟨_,rfl⟩
    replace H : (if x127005_1.length < 3518437208883 then (spec_l07New.l0 k1 (wrap64 (x6_1 + 1)) a0 a1 0 true t114 (x127005_1 ++ [(⟨(⟨#[]⟩ : ByteArray),y127⟩ : S46)]) y120 y123) else (none)) = some (r1,r2,r3,r4,r5,r6,r7,r8) := by first | (rw [hy127];with_reducible exact H) | (have H2_ := (Option.bind_some _ _).symm.trans H;rw [hy127];with_reducible exact H2_) | (have H2_ := (Option.bind_some _ _).symm.trans H;with_reducible exact H2_) | with_reducible exact H | (rw [hy127];exact H) | exact H
    have Ny127 := am_ hy127
    clear hy127
    by_cases c20 : x127005_1.length < 3518437208883
    ·rw [if_pos c20] at H
     have LMc20 := am_ c20
     clear c20
     obtain ⟨y130,hy130⟩ : ∃ y_ : List (S46),y_ = (x127005_1 ++ [(⟨(⟨#[]⟩ : ByteArray),y127⟩ : S46)]) := ⟨_,rfl⟩
     replace H : (spec_l07New.l0 k1 (wrap64 (x6_1 + 1)) a0 a1 0 true t114 y130 y120 y123) = some (r1,r2,r3,r4,r5,r6,r7,r8) := by first | (rw [hy130];with_reducible exact H) | (have H2_ := (Option.bind_some _ _).symm.trans H;rw [hy130];with_reducible exact H2_) | (have H2_ := (Option.bind_some _ _).symm.trans H;with_reducible exact H2_) | with_reducible exact H | (rw [hy130];exact H) | exact H
     have Ny130 := am_ hy130
     clear hy130
     have H' := am_ H
     clear H
     have hnb21 := NB126_113.out
     have hnc21 := NB113_126.out
     obtain ⟨hcz22_0,hcz22_1,hcz22_2,hcz22_3,hcz22_4,hcz22_5,hcz22_6,hcz22_7,hfz22_0,hfz22_1,hfz22_2,hfz22_3,hfz22_4,hfz22_5,hfz22_6,hfz22_7⟩ := zc8 BK126
     go_wp2_with (first | ((with_reducible refine gate_dst (N := 20) rfl ?_);refine Kd.R_lit k55 _ 55 ?hg (N := 20) ?hd (xs := ([] : List (S55))) (inner := []) (ok := fun _ => True) (okp := fun _ => True) ?hr ?hp (fun _ hk => hk) trivial (Below.refl _ _) (Nat.le_refl _) (by simp) ?_;(case hd => rfl);(case hg => rfl);(case hr => first | (go_simp;done) | (go_simp;rfl));(case hp => exact (Reps.none _ _));intro v128 w23 ho24 hb hg_ hnew_;clear hg_ hnew_;(first | rw [← Ny127.out] at ho24 | (simp only [Int.reduceToNat] at ho24;rw [← Ny127.out] at ho24));replace HO_127004 := am_ (Kd.S_elder' (by (with_reducible repeat (first | apply Kd.S_alloc | apply Kd.S_drewN | apply Kd.S_drew));exact HO_127004.out) (Kd.R_base ho24) hb);replace HO_127005 := am_ (Kd.S_elder' (by (with_reducible repeat (first | apply Kd.S_alloc | apply Kd.S_drewN | apply Kd.S_drew));exact HO_127005.out) (Kd.R_base ho24) hb);replace HO_127006 := zrb HO_127006 hb;have HO129 := am_ (Kd.R_lower (Kd.R_new' ho24 (Kd.R_lt (zr HO_127007))) (below_size (zl_ HB)));replace HO_127007 := am_ (Kd.R_elder' (zr HO_127007) (Kd.R_base ho24) hb);replace BK113 := zb BK113 hb;replace BK126 := zb BK126 hb;replace HB := zs_ HB hb;clear hb ho24;obtain ⟨Ao25,co25,eo25⟩ := Kd.R_slice HO129.out;subst eo25) | ((with_reducible refine gate_builtin (b := .append) (xs := #[.tmp 19,.tmp 22]) rfl ?_);at_builtin;refine Kd.S_append k46 (w0 := w) w.heap.size rfl (.tmp 19) (.tmp 22) 23 46 (.agg #[(.string ⟨#[]⟩),(.slice none 0 0)]) 40 rfl Try.underlying23 info46 rfl (by decide) (by omega) u127005 x127005_1 (⟨(⟨#[]⟩ : ByteArray),y127⟩ : S46) [.string ⟨#[]⟩,.slice Ao25 y127.length co25] (fun k_ => some k_ ≠ (.slice Ao12 y123.length co12 : Value).ownBlock) (fun k_ => some k_ = (.slice Ao25 y127.length co25 : Value).ownBlock) rfl rfl ?aP (fun k_ hk_ => ((Kd.R_mono (ok' := fun k_ => ((fun k_ => some k_ ≠ (.slice Ao12 y123.length co12 : Value).ownBlock)) k_ ∧ some k_ ≠ (u127005 : Value).ownBlock) (Kd.R_apart' (HO129.out) (Kd.S_typed HO_127005.out) (by decide)) (fun k_ hk => ⟨hk.1.2,hk.2⟩))).1 k_ hk_.symm) ?aF ?aO ?aB ?aS ?aL ?_;(case aP => exact k46_mkM _ _ _ (⟨(⟨#[]⟩ : ByteArray),y127⟩ : S46) (Kd.R_mono (Kd.R_tight rfl (Kd.R_mono (ok' := fun k_ => ((fun k_ => some k_ ≠ (.slice Ao12 y123.length co12 : Value).ownBlock)) k_ ∧ some k_ ≠ (u127005 : Value).ownBlock) (Kd.R_apart' (HO129.out) (Kd.S_typed HO_127005.out) (by decide)) (fun k_ hk => ⟨hk.1.2,hk.2⟩))) (fun _ h_ => h_)));(case aB => exact (zl_ HB));(case aF => exact (fun k_ hk => Kd.fresh' (Kd.R_lt (zr HO_127007)) k_ hk));(case aO => exact (by (with_reducible repeat (first | apply Kd.S_alloc | apply Kd.S_drewN | apply Kd.S_drew));exact Kd.S_mono HO_127005.out (fun k_ hk => ⟨hk.1,fun e_ => hk.2 e_⟩)));(case aS => exact (below_size (zl_ HB)));(case aL => have := LMc20.out;omega);intro v131 w26 ho hb hg hat;rw [← Ny130.out] at ho;replace HO_127004 := am_ (Kd.S_over' (by (with_reducible repeat (first | apply Kd.S_alloc | apply Kd.S_drewN | apply Kd.S_drew));exact HO_127004.out) (Kd.S_typed (by (with_reducible repeat (first | apply Kd.S_alloc | apply Kd.S_drewN | apply Kd.S_drew));exact HO_127005.out)) (by decide) hg);replace HO_127006 := am_ (Kd.R_over' (zr HO_127006) (Kd.S_typed (by (with_reducible repeat (first | apply Kd.S_alloc | apply Kd.S_drewN | apply Kd.S_drew));exact HO_127005.out)) (by decide) hg);replace HO_127007 := am_ (Kd.R_over' (zr HO_127007) (Kd.S_typed (by (with_reducible repeat (first | apply Kd.S_alloc | apply Kd.S_drewN | apply Kd.S_drew));exact HO_127005.out)) (by decide) hg);replace BK113 := am_ (blk_grown (g := gb113) (o := .cells #[.int .i64 0,.int .i64 0,.int .i64 0,.bool false,.slice none 0 0,.slice none 0 0,.slice none 0 0,.slice none 0 0] 27 (0,0)) (zk BK113) hg (Kd.S_ne HO_127005.out BK113.out (by decide)));replace BK126 := am_ (blk_grown (g := gb126) (o := .cells #[.int .i64 a0,.int .i64 a1,.int .i64 0,.bool true,.slice Ao15 t114.length co15,u127005,.slice Ao13 y120.length co13,.slice Ao12 y123.length co12] 27 (0,0)) (zk BK126) hg (Kd.S_ne HO_127005.out BK126.out (by decide)));replace HB := am_ (hb);have HO132 := am_ (ho);clear HO_127005;clear HO129;clear ho hb hg hat;obtain ⟨Ao27,co27,eo27⟩ := Kd.S_slice HO132.out;subst eo27;obtain ⟨hcz28_0,hcz28_1,hcz28_2,hcz28_3,hcz28_4,hcz28_5,hcz28_6,hcz28_7,hfz28_0,hfz28_1,hfz28_2,hfz28_3,hfz28_4,hfz28_5,hfz28_6,hfz28_7⟩ := zc8 BK126))
     go_roundg k1
     case measure => have := HK1.out;omega
     case rel => exact ⟨(wrap64 (x6_1 + 1)),(y130),(.slice Ao27 y130.length co27),(by first | rfl | (simp;done) | (simp [*];done)),H',⟨by have := HK1.out;omega⟩,⟨by (with_reducible repeat (first | apply Kd.S_alloc | apply Kd.S_drewN | apply Kd.S_drew));exact Kd.S_mono (Kd.S_far (p := ⟨gb126,5,none⟩) (Kd.S_types HO_127004.out BK126.out (by decide)) (fun _ hk => hk.2) (.slice Ao27 y130.length co27)) (fun _ hk => hk.1.1)⟩,⟨by (with_reducible repeat (first | apply Kd.S_alloc | apply Kd.S_drewN | apply Kd.S_drew));exact Kd.S_mono (Kd.S_far (p := ⟨gb126,5,none⟩) (Kd.S_types HO132.out BK126.out (by decide)) (fun _ hk => hk.2) (.slice Ao27 y130.length co27)) (fun _ hk => hk.1)⟩,⟨by (with_reducible repeat (first | apply r1_ | apply r2_ | apply r3_));exact Kd.R_mono (zrf (Kd.R_types HO_127006.out BK126.out (by decide))) (fun _ hk => trivial)⟩,⟨by (with_reducible repeat (first | apply r1_ | apply r2_ | apply r3_));exact Kd.R_mono (zrf (Kd.R_types HO_127007.out BK126.out (by decide))) (fun _ hk => trivial)⟩,⟨zq BK113⟩,⟨zq BK126⟩,⟨zl_ HB⟩⟩
    ·rw [if_neg c20] at H
     exact absurd H (by simp)
   ·rw [if_neg c19] at H
    have c19b0 : decide (x6_1 < 8) = false := decide_eq_false c19
    clear c19
    simp only [Option.some.injEq,Prod.mk.injEq] at H
    obtain ⟨rfl,rfl,rfl,rfl,rfl,rfl,rfl,rfl⟩ := H
    have hnb29 := NB126_113.out
    have hnc29 := NB113_126.out
    obtain ⟨hcz30_0,hcz30_1,hcz30_2,hcz30_3,hcz30_4,hcz30_5,hcz30_6,hcz30_7,hfz30_0,hfz30_1,hfz30_2,hfz30_3,hfz30_4,hfz30_5,hfz30_6,hfz30_7⟩ := zc8 BK126
    obtain ⟨hcz31_0,hcz31_1,hcz31_2,hcz31_3,hcz31_4,hcz31_5,hcz31_6,hcz31_7,hfz31_0,hfz31_1,hfz31_2,hfz31_3,hfz31_4,hfz31_5,hfz31_6,hfz31_7⟩ := zc8 BK113
    obtain ⟨Ao32,co32,eo32⟩ := Kd.S_slice HO_127005.out
    subst eo32
    go_wp2
    refine bodyPost_ret (results_cell_row rfl _ _ gb113 27 #[.int .i64 a0,.int .i64 a1,.int .i64 0,.bool true,.slice Ao15 t114.length co15,.slice Ao32 x127005_1.length co32,.slice Ao13 y120.length co13,.slice Ao12 y123.length co12] (0,0) _ rfl (zq BK113) Try.underlying27 rfl (by kernel_rfl)) rfl ?_
    exact ⟨_,_,_,_,zt_,by (with_reducible repeat (first | apply Kd.S_alloc | apply Kd.S_drewN | apply Kd.S_drew));exact Kd.S_mono (Kd.S_far (p := ⟨gb113,7,none⟩) (Kd.S_far (p := ⟨gb113,6,none⟩) (Kd.S_far (p := ⟨gb113,5,none⟩) (Kd.S_far (p := ⟨gb113,4,none⟩) (Kd.S_far (p := ⟨gb113,3,none⟩) (Kd.S_far (p := ⟨gb113,2,none⟩) (Kd.S_far (p := ⟨gb113,1,none⟩) (Kd.S_far (p := ⟨gb113,0,none⟩) (Kd.S_types HO_127004.out BK113.out (by decide)) (fun _ hk => hk.2) (.int .i64 a0)) (fun _ hk => hk.2) (.int .i64 a1)) (fun _ hk => hk.2) (.int .i64 0)) (fun _ hk => hk.2) (.bool true)) (fun _ hk => hk.2) (.slice Ao15 t114.length co15)) (fun _ hk => hk.2) (.slice Ao32 x127005_1.length co32)) (fun _ hk => hk.2) (.slice Ao13 y120.length co13)) (fun _ hk => hk.2) (.slice Ao12 y123.length co12)) (fun _ hk => hk.1),by (with_reducible repeat (first | apply Kd.S_alloc | apply Kd.S_drewN | apply Kd.S_drew));exact Kd.S_mono (Kd.S_far (p := ⟨gb113,7,none⟩) (Kd.S_far (p := ⟨gb113,6,none⟩) (Kd.S_far (p := ⟨gb113,5,none⟩) (Kd.S_far (p := ⟨gb113,4,none⟩) (Kd.S_far (p := ⟨gb113,3,none⟩) (Kd.S_far (p := ⟨gb113,2,none⟩) (Kd.S_far (p := ⟨gb113,1,none⟩) (Kd.S_far (p := ⟨gb113,0,none⟩) (Kd.S_types HO_127005.out BK113.out (by decide)) (fun _ hk => hk.2) (.int .i64 a0)) (fun _ hk => hk.2) (.int .i64 a1)) (fun _ hk => hk.2) (.int .i64 0)) (fun _ hk => hk.2) (.bool true)) (fun _ hk => hk.2) (.slice Ao15 t114.length co15)) (fun _ hk => hk.2) (.slice Ao32 x127005_1.length co32)) (fun _ hk => hk.2) (.slice Ao13 y120.length co13)) (fun _ hk => hk.2) (.slice Ao12 y123.length co12)) (fun _ hk => hk.1),by (with_reducible repeat (first | apply r1_ | apply r2_ | apply r3_));exact Kd.R_mono (zrf (Kd.R_types HO_127006.out BK113.out (by decide))) (fun _ hk => trivial),by (with_reducible repeat (first | apply r1_ | apply r2_ | apply r3_));exact Kd.R_mono (zrf (Kd.R_types HO_127007.out BK113.out (by decide))) (fun _ hk => trivial),zl_ HB⟩
set_option maxHeartbeats 8000000 in
set_option maxRecDepth 100000 in
theorem spec_NewReplica.calls (k : Nat) (a0 : Int) (a1 : Int) (r1 : Int) (r2 : Int) (r3 : Int) (r4 : Bool) (r5 : List (S51)) (r6 : List (S46)) (r7 : List ByteArray) (r8 : List (S55)) (r9 : Int) (w : World) (h : spec_NewReplica.f k a0 a1 = some (r1,r2,r3,r4,r5,r6,r7,r8,r9)) :
  Calls Try.prog 4 #[.int .i64 a0,.int .i64 a1] w fun e w' => ∃ v4_ v5_ v6_ v7_ : Value,e = .returned (.tuple #[.agg #[.int .i64 r1,.int .i64 r2,.int .i64 r3,.bool r4,v4_,v5_,v6_,v7_],.int .i64 r9]) ∧ Kd.S k51 51 w' w.heap.size (fun k_ => some k_ ≠ (v7_ : Value).ownBlock) v4_ r5 ∧ Kd.S k46 46 w' w.heap.size (fun k_ => some k_ ≠ (v7_ : Value).ownBlock) v5_ r6 ∧ Kd.R Kd.string 9 w' w.heap.size (fun _ => True) v6_ r7 ∧ Kd.R k55 55 w' w.heap.size (fun _ => True) v7_ r8 ∧ Below w.heap.size w w' := by
 have hu27 := Try.underlying27
 have HB := am_ (Below.refl w.heap.size w)
 have H : ((spec_l04Nodes.f a1).bind fun t134 => (if t134 = true then ((spec_l01In.f a0 0 (wrap64 (a1 - 1))).bind fun t135 => (if t135 = true then ((spec_l07New.f k a0 a1).bind fun bt136 => (some (bt136.1,bt136.2.1,bt136.2.2.1,bt136.2.2.2.1,bt136.2.2.2.2.1,bt136.2.2.2.2.2.1,bt136.2.2.2.2.2.2.1,bt136.2.2.2.2.2.2.2,0))) else (some (0,0,0,false,([] : List (S51)),([] : List (S46)),([] : List ByteArray),([] : List (S55)),4)))) else (some (0,0,0,false,([] : List (S51)),([] : List (S46)),([] : List ByteArray),([] : List (S55)),4)))) = some (r1,r2,r3,r4,r5,r6,r7,r8,r9) := h
 clear h
 replace H := Option.bind_eq_some_iff.mp H
 obtain ⟨t134,A30,H⟩ := H
 try dsimp only at H
 have A3 := am_ A30
 clear A30
 by_cases c4 : t134 = true
 ·subst c4
  have H1 : ((spec_l01In.f a0 0 (wrap64 (a1 - 1))).bind fun t135 => (if t135 = true then ((spec_l07New.f k a0 a1).bind fun bt136 => (some (bt136.1,bt136.2.1,bt136.2.2.1,bt136.2.2.2.1,bt136.2.2.2.2.1,bt136.2.2.2.2.2.1,bt136.2.2.2.2.2.2.1,bt136.2.2.2.2.2.2.2,0))) else (some (0,0,0,false,([] : List (S51)),([] : List (S46)),([] : List ByteArray),([] : List (S55)),4)))) = some (r1,r2,r3,r4,r5,r6,r7,r8,r9) := by rw [if_pos rfl] at H;exact H
  clear H
  have H := H1
  clear H1
  replace H := Option.bind_eq_some_iff.mp H
  obtain ⟨t135,A50,H⟩ := H
  try dsimp only at H
  have A5 := am_ A50
  clear A50
  by_cases c6 : t135 = true
  ·subst c6
   have H1 : ((spec_l07New.f k a0 a1).bind fun bt136 => (some (bt136.1,bt136.2.1,bt136.2.2.1,bt136.2.2.2.1,bt136.2.2.2.2.1,bt136.2.2.2.2.2.1,bt136.2.2.2.2.2.2.1,bt136.2.2.2.2.2.2.2,0))) = some (r1,r2,r3,r4,r5,r6,r7,r8,r9) := by rw [if_pos rfl] at H;exact H
   clear H
   have H := H1
   clear H1
   replace H := Option.bind_eq_some_iff.mp H
   obtain ⟨⟨t136,t137,t138,t139,t140,t143,t146,t149⟩,A70,H⟩ := H
   try dsimp only at H
   have A7 := am_ A70
   clear A70
   simp only [Option.some.injEq,Prod.mk.injEq] at H
   obtain ⟨rfl,rfl,rfl,rfl,rfl,rfl,rfl,rfl,rfl⟩ := H
   go_enter Try.func4,Try.ntmps4
   go_wp2_with (first | ((with_reducible refine gate_dst (N := 4) rfl ?_);refine zbx (N := 4) (cs := #[.int .i64 0,.int .i64 0,.int .i64 0,.bool false,.slice none 0 0,.slice none 0 0,.slice none 0 0,.slice none 0 0]) (t := 27) ?_;intro gb133 hg w8 hbox hb;have BK133 := am_ (hbox);have GW133 := zw_ HB hg;have GE133 := zw_ HB hg;replace HB := zs_ HB hb;clear hb hbox hg) | ((with_reducible refine gate_callee (f := 9) rfl ?_);refine zgl (some 7) Try.func9 #[.int .i64 a1] ?_;(with_reducible refine (spec_l04Nodes.calls a1 true _ A3.out).mono ?_);rintro e w' ⟨rfl,⟨nd,rfl⟩⟩;refine ⟨_,rfl,?_⟩;(try (rw [drewN_self w8];generalize hq_ : World.drewN w8 _ = w8;have n0_ : Aside0 (w8.heap[gb133]? = some (.cells #[.int .i64 0,.int .i64 0,.int .i64 0,.bool false,.slice none 0 0,.slice none 0 0,.slice none 0 0,.slice none 0 0] 27 (0,0))) := ⟨by rw [← hq_];exact (zk BK133)⟩;have n1_ : Aside0 (Below w.heap.size w w8) := ⟨by rw [← hq_];exact (zl_ HB)⟩;clear BK133 HB hq_;have BK133 := n0_;have HB := n1_;clear n0_ n1_));(try have hfu133_0 := blk_frozen BK133.out 0);(try have hcu133_0 : w8.cell? ⟨gb133,0,none⟩ = some (.int .i64 0) := (blk_cell BK133.out 0).trans rfl);(try have hfu133_1 := blk_frozen BK133.out 1);(try have hcu133_1 : w8.cell? ⟨gb133,1,none⟩ = some (.int .i64 0) := (blk_cell BK133.out 1).trans rfl);(try have hfu133_2 := blk_frozen BK133.out 2);(try have hcu133_2 : w8.cell? ⟨gb133,2,none⟩ = some (.int .i64 0) := (blk_cell BK133.out 2).trans rfl);(try have hfu133_3 := blk_frozen BK133.out 3);(try have hcu133_3 : w8.cell? ⟨gb133,3,none⟩ = some (.bool false) := (blk_cell BK133.out 3).trans rfl);(try have hfu133_4 := blk_frozen BK133.out 4);(try have hcu133_4 : w8.cell? ⟨gb133,4,none⟩ = some (.slice none 0 0) := (blk_cell BK133.out 4).trans rfl);(try have hfu133_5 := blk_frozen BK133.out 5);(try have hcu133_5 : w8.cell? ⟨gb133,5,none⟩ = some (.slice none 0 0) := (blk_cell BK133.out 5).trans rfl);(try have hfu133_6 := blk_frozen BK133.out 6);(try have hcu133_6 : w8.cell? ⟨gb133,6,none⟩ = some (.slice none 0 0) := (blk_cell BK133.out 6).trans rfl);(try have hfu133_7 := blk_frozen BK133.out 7);(try have hcu133_7 : w8.cell? ⟨gb133,7,none⟩ = some (.slice none 0 0) := (blk_cell BK133.out 7).trans rfl)) | (go_at_call 10;(with_reducible refine (spec_l01In.calls a0 0 (wrap64 (a1 - 1)) true _ A5.out).mono ?_);rintro e w' ⟨rfl,⟨nd,rfl⟩⟩;(try (rw [drewN_self w8];generalize hq_ : World.drewN w8 _ = w8;have n0_ : Aside0 (w8.heap[gb133]? = some (.cells #[.int .i64 0,.int .i64 0,.int .i64 0,.bool false,.slice none 0 0,.slice none 0 0,.slice none 0 0,.slice none 0 0] 27 (0,0))) := ⟨by rw [← hq_];exact (zk BK133)⟩;have n1_ : Aside0 (Below w.heap.size w w8) := ⟨by rw [← hq_];exact (zl_ HB)⟩;clear BK133 HB hq_;have BK133 := n0_;have HB := n1_;clear n0_ n1_));(try have hfu133_0 := blk_frozen BK133.out 0);(try have hcu133_0 : w8.cell? ⟨gb133,0,none⟩ = some (.int .i64 0) := (blk_cell BK133.out 0).trans rfl);(try have hfu133_1 := blk_frozen BK133.out 1);(try have hcu133_1 : w8.cell? ⟨gb133,1,none⟩ = some (.int .i64 0) := (blk_cell BK133.out 1).trans rfl);(try have hfu133_2 := blk_frozen BK133.out 2);(try have hcu133_2 : w8.cell? ⟨gb133,2,none⟩ = some (.int .i64 0) := (blk_cell BK133.out 2).trans rfl);(try have hfu133_3 := blk_frozen BK133.out 3);(try have hcu133_3 : w8.cell? ⟨gb133,3,none⟩ = some (.bool false) := (blk_cell BK133.out 3).trans rfl);(try have hfu133_4 := blk_frozen BK133.out 4);(try have hcu133_4 : w8.cell? ⟨gb133,4,none⟩ = some (.slice none 0 0) := (blk_cell BK133.out 4).trans rfl);(try have hfu133_5 := blk_frozen BK133.out 5);(try have hcu133_5 : w8.cell? ⟨gb133,5,none⟩ = some (.slice none 0 0) := (blk_cell BK133.out 5).trans rfl);(try have hfu133_6 := blk_frozen BK133.out 6);(try have hcu133_6 : w8.cell? ⟨gb133,6,none⟩ = some (.slice none 0 0) := (blk_cell BK133.out 6).trans rfl);(try have hfu133_7 := blk_frozen BK133.out 7);(try have hcu133_7 : w8.cell? ⟨gb133,7,none⟩ = some (.slice none 0 0) := (blk_cell BK133.out 7).trans rfl)) | ((with_reducible refine gate_callee (f := 11) rfl ?_);refine zgl (some 19) Try.func11 #[.int .i64 a0,.int .i64 a1] ?_;(with_reducible refine (spec_l07New.calls k a0 a1 t136 t137 t138 t139 t140 t143 t146 t149 _ A7.out).mono ?_);rintro e w9 ⟨v141,v144,v147,v150,rfl,ho0,ho1,ho2,ho3,hb⟩;refine ⟨_,rfl,?_⟩;have HO142 := am_ (Kd.S_lower ho0 (below_size (zl_ HB)));have HO145 := am_ (Kd.S_lower ho1 (below_size (zl_ HB)));have HO148 := am_ (Kd.R_lower ho2 (below_size (zl_ HB)));have HO151 := am_ (Kd.R_lower ho3 (below_size (zl_ HB)));replace BK133 := zb BK133 hb;replace HB := zs_ HB hb;(try clear hb);(try clear hb2);(try clear hk);(try clear hi);(try clear ho0);(try clear ho1);(try clear ho2);(try clear ho3);obtain ⟨hcz10_0,hcz10_1,hcz10_2,hcz10_3,hcz10_4,hcz10_5,hcz10_6,hcz10_7,hfz10_0,hfz10_1,hfz10_2,hfz10_3,hfz10_4,hfz10_5,hfz10_6,hfz10_7⟩ := zc8 BK133;obtain ⟨Ao11,co11,eo11⟩ := Kd.S_slice HO142.out;subst eo11;obtain ⟨Ao12,co12,eo12⟩ := Kd.S_slice HO145.out;subst eo12;obtain ⟨Ao13,co13,eo13⟩ := Kd.R_slice HO148.out;subst eo13;obtain ⟨Ao14,co14,eo14⟩ := Kd.R_slice HO151.out;subst eo14))
   refine bodyPost_ret (results_ct rfl _ _ gb133 27 #[.int .i64 t136,.int .i64 t137,.int .i64 t138,.bool t139,.slice Ao11 t140.length co11,.slice Ao12 t143.length co12,.slice Ao13 t146.length co13,.slice Ao14 t149.length co14] (0,0) _ rfl (zq BK133) Try.underlying27 rfl (by kernel_rfl)) rfl ?_
   exact ⟨_,_,_,_,zt_,by (with_reducible repeat (first | apply Kd.S_alloc | apply Kd.S_drewN | apply Kd.S_drew));exact Kd.S_mono (Kd.S_far (p := ⟨gb133,7,none⟩) (Kd.S_far (p := ⟨gb133,6,none⟩) (Kd.S_far (p := ⟨gb133,5,none⟩) (Kd.S_far (p := ⟨gb133,4,none⟩) (Kd.S_far (p := ⟨gb133,3,none⟩) (Kd.S_far (p := ⟨gb133,2,none⟩) (Kd.S_far (p := ⟨gb133,1,none⟩) (Kd.S_far (p := ⟨gb133,0,none⟩) (Kd.S_types HO142.out BK133.out (by decide)) (fun _ hk => hk.2) (.int .i64 t136)) (fun _ hk => hk.2) (.int .i64 t137)) (fun _ hk => hk.2) (.int .i64 t138)) (fun _ hk => hk.2) (.bool t139)) (fun _ hk => hk.2) (.slice Ao11 t140.length co11)) (fun _ hk => hk.2) (.slice Ao12 t143.length co12)) (fun _ hk => hk.2) (.slice Ao13 t146.length co13)) (fun _ hk => hk.2) (.slice Ao14 t149.length co14)) (fun _ hk => hk.1),by (with_reducible repeat (first | apply Kd.S_alloc | apply Kd.S_drewN | apply Kd.S_drew));exact Kd.S_mono (Kd.S_far (p := ⟨gb133,7,none⟩) (Kd.S_far (p := ⟨gb133,6,none⟩) (Kd.S_far (p := ⟨gb133,5,none⟩) (Kd.S_far (p := ⟨gb133,4,none⟩) (Kd.S_far (p := ⟨gb133,3,none⟩) (Kd.S_far (p := ⟨gb133,2,none⟩) (Kd.S_far (p := ⟨gb133,1,none⟩) (Kd.S_far (p := ⟨gb133,0,none⟩) (Kd.S_types HO145.out BK133.out (by decide)) (fun _ hk => hk.2) (.int .i64 t136)) (fun _ hk => hk.2) (.int .i64 t137)) (fun _ hk => hk.2) (.int .i64 t138)) (fun _ hk => hk.2) (.bool t139)) (fun _ hk => hk.2) (.slice Ao11 t140.length co11)) (fun _ hk => hk.2) (.slice Ao12 t143.length co12)) (fun _ hk => hk.2) (.slice Ao13 t146.length co13)) (fun _ hk => hk.2) (.slice Ao14 t149.length co14)) (fun _ hk => hk.1),by (with_reducible repeat (first | apply r1_ | apply r2_ | apply r3_));exact Kd.R_mono (zrf (Kd.R_types HO148.out BK133.out (by decide))) (fun _ hk => trivial),by (with_reducible repeat (first | apply r1_ | apply r2_ | apply r3_));exact Kd.R_mono (zrf (Kd.R_types HO151.out BK133.out (by decide))) (fun _ hk => trivial),zl_ HB⟩
  ·replace c6 := Bool.eq_false_iff.mpr c6
   subst c6
   have H1 : (some (0,0,0,false,([] : List (S51)),([] : List (S46)),([] : List ByteArray),([] : List (S55)),4)) = some (r1,r2,r3,r4,r5,r6,r7,r8,r9) := by rw [if_neg (show ¬ (false = true) by decide)] at H;exact H
   clear H
   have H := H1
   clear H1
   simp only [Option.some.injEq,Prod.mk.injEq] at H
   obtain ⟨rfl,rfl,rfl,rfl,rfl,rfl,rfl,rfl,rfl⟩ := H
   go_enter Try.func4,Try.ntmps4
   go_wp2_with (first | ((with_reducible refine gate_dst (N := 4) rfl ?_);refine zbx (N := 4) (cs := #[.int .i64 0,.int .i64 0,.int .i64 0,.bool false,.slice none 0 0,.slice none 0 0,.slice none 0 0,.slice none 0 0]) (t := 27) ?_;intro gb133 hg w15 hbox hb;have BK133 := am_ (hbox);have GW133 := zw_ HB hg;have GE133 := zw_ HB hg;replace HB := zs_ HB hb;clear hb hbox hg) | ((with_reducible refine gate_callee (f := 9) rfl ?_);refine zgl (some 7) Try.func9 #[.int .i64 a1] ?_;(with_reducible refine (spec_l04Nodes.calls a1 true _ A3.out).mono ?_);rintro e w' ⟨rfl,⟨nd,rfl⟩⟩;refine ⟨_,rfl,?_⟩;(try (rw [drewN_self w15];generalize hq_ : World.drewN w15 _ = w15;have n0_ : Aside0 (w15.heap[gb133]? = some (.cells #[.int .i64 0,.int .i64 0,.int .i64 0,.bool false,.slice none 0 0,.slice none 0 0,.slice none 0 0,.slice none 0 0] 27 (0,0))) := ⟨by rw [← hq_];exact (zk BK133)⟩;have n1_ : Aside0 (Below w.heap.size w w15) := ⟨by rw [← hq_];exact (zl_ HB)⟩;clear BK133 HB hq_;have BK133 := n0_;have HB := n1_;clear n0_ n1_));(try have hfu133_0 := blk_frozen BK133.out 0);(try have hcu133_0 : w15.cell? ⟨gb133,0,none⟩ = some (.int .i64 0) := (blk_cell BK133.out 0).trans rfl);(try have hfu133_1 := blk_frozen BK133.out 1);(try have hcu133_1 : w15.cell? ⟨gb133,1,none⟩ = some (.int .i64 0) := (blk_cell BK133.out 1).trans rfl);(try have hfu133_2 := blk_frozen BK133.out 2);(try have hcu133_2 : w15.cell? ⟨gb133,2,none⟩ = some (.int .i64 0) := (blk_cell BK133.out 2).trans rfl);(try have hfu133_3 := blk_frozen BK133.out 3);(try have hcu133_3 : w15.cell? ⟨gb133,3,none⟩ = some (.bool false) := (blk_cell BK133.out 3).trans rfl);(try have hfu133_4 := blk_frozen BK133.out 4);(try have hcu133_4 : w15.cell? ⟨gb133,4,none⟩ = some (.slice none 0 0) := (blk_cell BK133.out 4).trans rfl);(try have hfu133_5 := blk_frozen BK133.out 5);(try have hcu133_5 : w15.cell? ⟨gb133,5,none⟩ = some (.slice none 0 0) := (blk_cell BK133.out 5).trans rfl);(try have hfu133_6 := blk_frozen BK133.out 6);(try have hcu133_6 : w15.cell? ⟨gb133,6,none⟩ = some (.slice none 0 0) := (blk_cell BK133.out 6).trans rfl);(try have hfu133_7 := blk_frozen BK133.out 7);(try have hcu133_7 : w15.cell? ⟨gb133,7,none⟩ = some (.slice none 0 0) := (blk_cell BK133.out 7).trans rfl)) | (go_at_call 10;(with_reducible refine (spec_l01In.calls a0 0 (wrap64 (a1 - 1)) false _ A5.out).mono ?_);rintro e w' ⟨rfl,⟨nd,rfl⟩⟩;(try (rw [drewN_self w15];generalize hq_ : World.drewN w15 _ = w15;have n0_ : Aside0 (w15.heap[gb133]? = some (.cells #[.int .i64 0,.int .i64 0,.int .i64 0,.bool false,.slice none 0 0,.slice none 0 0,.slice none 0 0,.slice none 0 0] 27 (0,0))) := ⟨by rw [← hq_];exact (zk BK133)⟩;have n1_ : Aside0 (Below w.heap.size w w15) := ⟨by rw [← hq_];exact (zl_ HB)⟩;clear BK133 HB hq_;have BK133 := n0_;have HB := n1_;clear n0_ n1_));(try have hfu133_0 := blk_frozen BK133.out 0);(try have hcu133_0 : w15.cell? ⟨gb133,0,none⟩ = some (.int .i64 0) := (blk_cell BK133.out 0).trans rfl);(try have hfu133_1 := blk_frozen BK133.out 1);(try have hcu133_1 : w15.cell? ⟨gb133,1,none⟩ = some (.int .i64 0) := (blk_cell BK133.out 1).trans rfl);(try have hfu133_2 := blk_frozen BK133.out 2);(try have hcu133_2 : w15.cell? ⟨gb133,2,none⟩ = some (.int .i64 0) := (blk_cell BK133.out 2).trans rfl);(try have hfu133_3 := blk_frozen BK133.out 3);(try have hcu133_3 : w15.cell? ⟨gb133,3,none⟩ = some (.bool false) := (blk_cell BK133.out 3).trans rfl);(try have hfu133_4 := blk_frozen BK133.out 4);(try have hcu133_4 : w15.cell? ⟨gb133,4,none⟩ = some (.slice none 0 0) := (blk_cell BK133.out 4).trans rfl);(try have hfu133_5 := blk_frozen BK133.out 5);(try have hcu133_5 : w15.cell? ⟨gb133,5,none⟩ = some (.slice none 0 0) := (blk_cell BK133.out 5).trans rfl);(try have hfu133_6 := blk_frozen BK133.out 6);(try have hcu133_6 : w15.cell? ⟨gb133,6,none⟩ = some (.slice none 0 0) := (blk_cell BK133.out 6).trans rfl);(try have hfu133_7 := blk_frozen BK133.out 7);(try have hcu133_7 : w15.cell? ⟨gb133,7,none⟩ = some (.slice none 0 0) := (blk_cell BK133.out 7).trans rfl);obtain ⟨hcz16_0,hcz16_1,hcz16_2,hcz16_3,hcz16_4,hcz16_5,hcz16_6,hcz16_7,hfz16_0,hfz16_1,hfz16_2,hfz16_3,hfz16_4,hfz16_5,hfz16_6,hfz16_7⟩ := zc8 BK133))
   refine bodyPost_ret (results_ct rfl _ _ gb133 27 #[.int .i64 0,.int .i64 0,.int .i64 0,.bool false,.slice none 0 0,.slice none 0 0,.slice none 0 0,.slice none 0 0] (0,0) _ rfl (zq BK133) Try.underlying27 rfl (by kernel_rfl)) rfl ?_
   exact ⟨_,_,_,_,zt_,by first | exact Kd.S_nil _ _ _ _ _ | exact Kd.N_nil _ _ _ _ _ | exact Kd.V_nil _ _ _ _ _ | exact Kd.Q_nil _ _ _ _ _ | exact Kd.R_nil _ _ _ _ _,by first | exact Kd.S_nil _ _ _ _ _ | exact Kd.N_nil _ _ _ _ _ | exact Kd.V_nil _ _ _ _ _ | exact Kd.Q_nil _ _ _ _ _ | exact Kd.R_nil _ _ _ _ _,by first | exact Kd.R_nil _ _ _ _ _ | exact Kd.N_nil _ _ _ _ _ | exact Kd.V_nil _ _ _ _ _ | exact Kd.Q_nil _ _ _ _ _ | exact Kd.S_nil _ _ _ _ _,by first | exact Kd.R_nil _ _ _ _ _ | exact Kd.N_nil _ _ _ _ _ | exact Kd.V_nil _ _ _ _ _ | exact Kd.Q_nil _ _ _ _ _ | exact Kd.S_nil _ _ _ _ _,zl_ HB⟩
 ·replace c4 := Bool.eq_false_iff.mpr c4
  subst c4
  have H1 : (some (0,0,0,false,([] : List (S51)),([] : List (S46)),([] : List ByteArray),([] : List (S55)),4)) = some (r1,r2,r3,r4,r5,r6,r7,r8,r9) := by rw [if_neg (show ¬ (false = true) by decide)] at H;exact H
  clear H
  have H := H1
  clear H1
  simp only [Option.some.injEq,Prod.mk.injEq] at H
  obtain ⟨rfl,rfl,rfl,rfl,rfl,rfl,rfl,rfl,rfl⟩ := H
  go_enter Try.func4,Try.ntmps4
  go_wp2_with (first | ((with_reducible refine gate_dst (N := 4) rfl ?_);refine zbx (N := 4) (cs := #[.int .i64 0,.int .i64 0,.int .i64 0,.bool false,.slice none 0 0,.slice none 0 0,.slice none 0 0,.slice none 0 0]) (t := 27) ?_;intro gb133 hg w17 hbox hb;have BK133 := am_ (hbox);have GW133 := zw_ HB hg;have GE133 := zw_ HB hg;replace HB := zs_ HB hb;clear hb hbox hg) | ((with_reducible refine gate_callee (f := 9) rfl ?_);refine zgl (some 7) Try.func9 #[.int .i64 a1] ?_;(with_reducible refine (spec_l04Nodes.calls a1 false _ A3.out).mono ?_);rintro e w' ⟨rfl,⟨nd,rfl⟩⟩;refine ⟨_,rfl,?_⟩;(try (rw [drewN_self w17];generalize hq_ : World.drewN w17 _ = w17;have n0_ : Aside0 (w17.heap[gb133]? = some (.cells #[.int .i64 0,.int .i64 0,.int .i64 0,.bool false,.slice none 0 0,.slice none 0 0,.slice none 0 0,.slice none 0 0] 27 (0,0))) := ⟨by rw [← hq_];exact (zk BK133)⟩;have n1_ : Aside0 (Below w.heap.size w w17) := ⟨by rw [← hq_];exact (zl_ HB)⟩;clear BK133 HB hq_;have BK133 := n0_;have HB := n1_;clear n0_ n1_));(try have hfu133_0 := blk_frozen BK133.out 0);(try have hcu133_0 : w17.cell? ⟨gb133,0,none⟩ = some (.int .i64 0) := (blk_cell BK133.out 0).trans rfl);(try have hfu133_1 := blk_frozen BK133.out 1);(try have hcu133_1 : w17.cell? ⟨gb133,1,none⟩ = some (.int .i64 0) := (blk_cell BK133.out 1).trans rfl);(try have hfu133_2 := blk_frozen BK133.out 2);(try have hcu133_2 : w17.cell? ⟨gb133,2,none⟩ = some (.int .i64 0) := (blk_cell BK133.out 2).trans rfl);(try have hfu133_3 := blk_frozen BK133.out 3);(try have hcu133_3 : w17.cell? ⟨gb133,3,none⟩ = some (.bool false) := (blk_cell BK133.out 3).trans rfl);(try have hfu133_4 := blk_frozen BK133.out 4);(try have hcu133_4 : w17.cell? ⟨gb133,4,none⟩ = some (.slice none 0 0) := (blk_cell BK133.out 4).trans rfl);(try have hfu133_5 := blk_frozen BK133.out 5);(try have hcu133_5 : w17.cell? ⟨gb133,5,none⟩ = some (.slice none 0 0) := (blk_cell BK133.out 5).trans rfl);(try have hfu133_6 := blk_frozen BK133.out 6);(try have hcu133_6 : w17.cell? ⟨gb133,6,none⟩ = some (.slice none 0 0) := (blk_cell BK133.out 6).trans rfl);(try have hfu133_7 := blk_frozen BK133.out 7);(try have hcu133_7 : w17.cell? ⟨gb133,7,none⟩ = some (.slice none 0 0) := (blk_cell BK133.out 7).trans rfl);obtain ⟨hcz18_0,hcz18_1,hcz18_2,hcz18_3,hcz18_4,hcz18_5,hcz18_6,hcz18_7,hfz18_0,hfz18_1,hfz18_2,hfz18_3,hfz18_4,hfz18_5,hfz18_6,hfz18_7⟩ := zc8 BK133))
  refine bodyPost_ret (results_ct rfl _ _ gb133 27 #[.int .i64 0,.int .i64 0,.int .i64 0,.bool false,.slice none 0 0,.slice none 0 0,.slice none 0 0,.slice none 0 0] (0,0) _ rfl (zq BK133) Try.underlying27 rfl (by kernel_rfl)) rfl ?_
  exact ⟨_,_,_,_,zt_,by first | exact Kd.S_nil _ _ _ _ _ | exact Kd.N_nil _ _ _ _ _ | exact Kd.V_nil _ _ _ _ _ | exact Kd.Q_nil _ _ _ _ _ | exact Kd.R_nil _ _ _ _ _,by first | exact Kd.S_nil _ _ _ _ _ | exact Kd.N_nil _ _ _ _ _ | exact Kd.V_nil _ _ _ _ _ | exact Kd.Q_nil _ _ _ _ _ | exact Kd.R_nil _ _ _ _ _,by first | exact Kd.R_nil _ _ _ _ _ | exact Kd.N_nil _ _ _ _ _ | exact Kd.V_nil _ _ _ _ _ | exact Kd.Q_nil _ _ _ _ _ | exact Kd.S_nil _ _ _ _ _,by first | exact Kd.R_nil _ _ _ _ _ | exact Kd.N_nil _ _ _ _ _ | exact Kd.V_nil _ _ _ _ _ | exact Kd.Q_nil _ _ _ _ _ | exact Kd.S_nil _ _ _ _ _,zl_ HB⟩
set_option maxHeartbeats 8000000 in
set_option maxRecDepth 100000 in
theorem laws_FnExactNewReplica.calls (k : Nat) (a0 : Int) (a1 : Int) (r : Bool) (w : World) (h : laws_FnExactNewReplica.f k a0 a1 = some r) :
  Calls Try.prog 3 #[.int .i64 a0,.int .i64 a1] w fun e w' => e = .returned (.bool r) ∧ Below w.heap.size w w' := by
 have hu27 := Try.underlying27
 have HB := am_ (Below.refl w.heap.size w)
 have H : ((spec_NewReplica.f k a0 a1).bind fun bt237 => ((impl_NewReplica.f a0 a1).bind fun bt255 => ((laws_eqReplica.f k bt255.1 bt255.2.1 bt255.2.2.1 bt255.2.2.2.1 bt255.2.2.2.2.1 bt255.2.2.2.2.2.1 bt255.2.2.2.2.2.2.1 bt255.2.2.2.2.2.2.2.1 bt237.1 bt237.2.1 bt237.2.2.1 bt237.2.2.2.1 bt237.2.2.2.2.1 bt237.2.2.2.2.2.1 bt237.2.2.2.2.2.2.1 bt237.2.2.2.2.2.2.2.1).bind fun t273 => (if t273 = true then (laws_FnExactNewReplica.j0 k a0 a1 bt237.2.2.2.2.2.2.2.2 (bt255.2.2.2.2.2.2.2.2 != bt237.2.2.2.2.2.2.2.2) bt237.1 bt237.2.1 bt237.2.2.1 bt237.2.2.2.1 bt237.2.2.2.2.1 bt237.2.2.2.2.2.1 bt237.2.2.2.2.2.2.1 bt237.2.2.2.2.2.2.2.1 bt255.1 bt255.2.1 bt255.2.2.1 bt255.2.2.2.1 bt255.2.2.2.2.1 bt255.2.2.2.2.2.1 bt255.2.2.2.2.2.2.1 bt255.2.2.2.2.2.2.2.1) else (laws_FnExactNewReplica.j0 k a0 a1 bt237.2.2.2.2.2.2.2.2 true bt237.1 bt237.2.1 bt237.2.2.1 bt237.2.2.2.1 bt237.2.2.2.2.1 bt237.2.2.2.2.2.1 bt237.2.2.2.2.2.2.1 bt237.2.2.2.2.2.2.2.1 bt255.1 bt255.2.1 bt255.2.2.1 bt255.2.2.2.1 bt255.2.2.2.2.1 bt255.2.2.2.2.2.1 bt255.2.2.2.2.2.2.1 bt255.2.2.2.2.2.2.2.1))))) = some r := h
 clear h
 replace H := Option.bind_eq_some_iff.mp H
 obtain ⟨⟨t237,t238,t239,t240,t241,t244,t247,t250,t253⟩,A30,H⟩ := H
 try dsimp only at H
 have A3 := am_ A30
 clear A30
 replace H := Option.bind_eq_some_iff.mp H
 obtain ⟨⟨t255,t256,t257,t258,t259,t262,t265,t268,t271⟩,A40,H⟩ := H
 try dsimp only at H
 have A4 := am_ A40
 clear A40
 have HC5 := am_ H
 clear H
 go_enter Try.func3,Try.ntmps3
 go_upto_region 3 with (first | ((with_reducible refine gate_callee (f := 4) rfl ?_);refine zgl (some 16) Try.func4 #[.int .i64 a0,.int .i64 a1] ?_;(with_reducible refine (spec_NewReplica.calls k a0 a1 t237 t238 t239 t240 t241 t244 t247 t250 t253 _ A3.out).mono ?_);rintro e w6 ⟨v242,v245,v248,v251,rfl,ho0,ho1,ho2,ho3,hb⟩;refine ⟨_,rfl,?_⟩;have HO243 := am_ (Kd.S_lower ho0 (below_size (zl_ HB)));have HO246 := am_ (Kd.S_lower ho1 (below_size (zl_ HB)));have HO249 := am_ (Kd.R_lower ho2 (below_size (zl_ HB)));have HO252 := am_ (Kd.R_lower ho3 (below_size (zl_ HB)));replace HB := zs_ HB hb;(try clear hb);(try clear hb2);(try clear hk);(try clear hi);(try clear ho0);(try clear ho1);(try clear ho2);(try clear ho3)) | ((with_reducible refine gate_dst (N := 5) rfl ?_);refine zbx (N := 5) (cs := #[.int .i64 0,.int .i64 0,.int .i64 0,.bool false,.slice none 0 0,.slice none 0 0,.slice none 0 0,.slice none 0 0]) (t := 27) ?_;intro gb254 hg w7 hbox hb;replace HO243 := am_ (Kd.S_below (by (with_reducible repeat (first | apply Kd.S_alloc | apply Kd.S_drewN | apply Kd.S_drew));exact HO243.out) hb);replace HO246 := am_ (Kd.S_below (by (with_reducible repeat (first | apply Kd.S_alloc | apply Kd.S_drewN | apply Kd.S_drew));exact HO246.out) hb);replace HO249 := zrb HO249 hb;replace HO252 := zrb HO252 hb;have BK254 := am_ (hbox);have GW254 := zw_ HB hg;have GE254 := zw_ HB hg;replace HB := zs_ HB hb;clear hb hbox hg;obtain ⟨hcz8_0,hcz8_1,hcz8_2,hcz8_3,hcz8_4,hcz8_5,hcz8_6,hcz8_7,hfz8_0,hfz8_1,hfz8_2,hfz8_3,hfz8_4,hfz8_5,hfz8_6,hfz8_7⟩ := zc8 BK254;obtain ⟨Ao9,co9,eo9⟩ := Kd.S_slice HO243.out;subst eo9;obtain ⟨Ao10,co10,eo10⟩ := Kd.S_slice HO246.out;subst eo10;obtain ⟨Ao11,co11,eo11⟩ := Kd.R_slice HO249.out;subst eo11;obtain ⟨Ao12,co12,eo12⟩ := Kd.R_slice HO252.out;subst eo12) | ((with_reducible refine gate_callee (f := 5) rfl ?_);refine zgl (some 22) Try.func5 #[.int .i64 a0,.int .i64 a1] ?_;(with_reducible refine (impl_NewReplica.calls a0 a1 t255 t256 t257 t258 t259 t262 t265 t268 t271 _ A4.out).mono ?_);rintro e w13 ⟨v260,v263,v266,v269,rfl,ho0,ho1,ho2,ho3,hb⟩;refine ⟨_,rfl,?_⟩;have HO261 := am_ (Kd.S_lower (Kd.S_new' (Kd.S_new' ho0 (Kd.S_lt (by (with_reducible repeat (first | apply Kd.S_alloc | apply Kd.S_drewN | apply Kd.S_drew));exact (Kd.S_mono (Kd.S_far (p := ⟨gb254,7,none⟩) (Kd.S_far (p := ⟨gb254,6,none⟩) (Kd.S_far (p := ⟨gb254,5,none⟩) (Kd.S_far (p := ⟨gb254,4,none⟩) (Kd.S_far (p := ⟨gb254,3,none⟩) (Kd.S_far (p := ⟨gb254,2,none⟩) (Kd.S_far (p := ⟨gb254,1,none⟩) (Kd.S_far (p := ⟨gb254,0,none⟩) (Kd.S_types HO243.out BK254.out (by decide)) (fun _ hk => hk.2) (.int .i64 t237)) (fun _ hk => hk.2) (.int .i64 t238)) (fun _ hk => hk.2) (.int .i64 t239)) (fun _ hk => hk.2) (.bool t240)) (fun _ hk => hk.2) (.slice Ao9 t241.length co9)) (fun _ hk => hk.2) (.slice Ao10 t244.length co10)) (fun _ hk => hk.2) (.slice Ao11 t247.length co11)) (fun _ hk => hk.2) (.slice Ao12 t250.length co12)) (fun _ h_ => h_.1))))) (Kd.R_lt (by (with_reducible repeat (first | apply r1_ | apply r2_ | apply r3_));exact (Kd.R_mono (zrf (Kd.R_types HO252.out BK254.out (by decide))) (fun _ h_ => h_.1))))) (below_size (zl_ HB)));replace HO243 := am_ (Kd.S_mono (Kd.S_told (Kd.S_told (Kd.S_old (by (with_reducible repeat (first | apply Kd.S_alloc | apply Kd.S_drewN | apply Kd.S_drew));exact (Kd.S_mono (Kd.S_far (p := ⟨gb254,7,none⟩) (Kd.S_far (p := ⟨gb254,6,none⟩) (Kd.S_far (p := ⟨gb254,5,none⟩) (Kd.S_far (p := ⟨gb254,4,none⟩) (Kd.S_far (p := ⟨gb254,3,none⟩) (Kd.S_far (p := ⟨gb254,2,none⟩) (Kd.S_far (p := ⟨gb254,1,none⟩) (Kd.S_far (p := ⟨gb254,0,none⟩) (Kd.S_types HO243.out BK254.out (by decide)) (fun _ hk => hk.2) (.int .i64 t237)) (fun _ hk => hk.2) (.int .i64 t238)) (fun _ hk => hk.2) (.int .i64 t239)) (fun _ hk => hk.2) (.bool t240)) (fun _ hk => hk.2) (.slice Ao9 t241.length co9)) (fun _ hk => hk.2) (.slice Ao10 t244.length co10)) (fun _ hk => hk.2) (.slice Ao11 t247.length co11)) (fun _ hk => hk.2) (.slice Ao12 t250.length co12)) (fun _ h_ => h_.1))) hb) (Kd.S_base ho0)) (Kd.R_base ho3)) (fun _ h_ => h_.1));have HO264 := am_ (Kd.S_lower (Kd.S_new' (Kd.S_new' ho1 (Kd.S_lt (by (with_reducible repeat (first | apply Kd.S_alloc | apply Kd.S_drewN | apply Kd.S_drew));exact (Kd.S_mono (Kd.S_far (p := ⟨gb254,7,none⟩) (Kd.S_far (p := ⟨gb254,6,none⟩) (Kd.S_far (p := ⟨gb254,5,none⟩) (Kd.S_far (p := ⟨gb254,4,none⟩) (Kd.S_far (p := ⟨gb254,3,none⟩) (Kd.S_far (p := ⟨gb254,2,none⟩) (Kd.S_far (p := ⟨gb254,1,none⟩) (Kd.S_far (p := ⟨gb254,0,none⟩) (Kd.S_types HO246.out BK254.out (by decide)) (fun _ hk => hk.2) (.int .i64 t237)) (fun _ hk => hk.2) (.int .i64 t238)) (fun _ hk => hk.2) (.int .i64 t239)) (fun _ hk => hk.2) (.bool t240)) (fun _ hk => hk.2) (.slice Ao9 t241.length co9)) (fun _ hk => hk.2) (.slice Ao10 t244.length co10)) (fun _ hk => hk.2) (.slice Ao11 t247.length co11)) (fun _ hk => hk.2) (.slice Ao12 t250.length co12)) (fun _ h_ => h_.1))))) (Kd.R_lt (by (with_reducible repeat (first | apply r1_ | apply r2_ | apply r3_));exact (Kd.R_mono (zrf (Kd.R_types HO252.out BK254.out (by decide))) (fun _ h_ => h_.1))))) (below_size (zl_ HB)));replace HO246 := am_ (Kd.S_mono (Kd.S_told (Kd.S_told (Kd.S_old (by (with_reducible repeat (first | apply Kd.S_alloc | apply Kd.S_drewN | apply Kd.S_drew));exact (Kd.S_mono (Kd.S_far (p := ⟨gb254,7,none⟩) (Kd.S_far (p := ⟨gb254,6,none⟩) (Kd.S_far (p := ⟨gb254,5,none⟩) (Kd.S_far (p := ⟨gb254,4,none⟩) (Kd.S_far (p := ⟨gb254,3,none⟩) (Kd.S_far (p := ⟨gb254,2,none⟩) (Kd.S_far (p := ⟨gb254,1,none⟩) (Kd.S_far (p := ⟨gb254,0,none⟩) (Kd.S_types HO246.out BK254.out (by decide)) (fun _ hk => hk.2) (.int .i64 t237)) (fun _ hk => hk.2) (.int .i64 t238)) (fun _ hk => hk.2) (.int .i64 t239)) (fun _ hk => hk.2) (.bool t240)) (fun _ hk => hk.2) (.slice Ao9 t241.length co9)) (fun _ hk => hk.2) (.slice Ao10 t244.length co10)) (fun _ hk => hk.2) (.slice Ao11 t247.length co11)) (fun _ hk => hk.2) (.slice Ao12 t250.length co12)) (fun _ h_ => h_.1))) hb) (Kd.S_base ho1)) (Kd.R_base ho3)) (fun _ h_ => h_.1));have HO267 := am_ (Kd.R_lower (Kd.R_new' ho2 (Kd.R_lt (by (with_reducible repeat (first | apply r1_ | apply r2_ | apply r3_));exact (Kd.R_mono (zrf (Kd.R_types HO249.out BK254.out (by decide))) (fun _ h_ => h_.1))))) (below_size (zl_ HB)));replace HO249 := am_ (Kd.R_elder' (by (with_reducible repeat (first | apply r1_ | apply r2_ | apply r3_));exact (Kd.R_mono (zrf (Kd.R_types HO249.out BK254.out (by decide))) (fun _ h_ => h_.1))) (Kd.R_base ho2) hb);have HO270 := am_ (Kd.R_lower (Kd.R_new' ho3 (Kd.R_lt (by (with_reducible repeat (first | apply r1_ | apply r2_ | apply r3_));exact (Kd.R_mono (zrf (Kd.R_types HO252.out BK254.out (by decide))) (fun _ h_ => h_.1))))) (below_size (zl_ HB)));replace HO252 := am_ (Kd.R_elder' (by (with_reducible repeat (first | apply r1_ | apply r2_ | apply r3_));exact (Kd.R_mono (zrf (Kd.R_types HO252.out BK254.out (by decide))) (fun _ h_ => h_.1))) (Kd.R_base ho3) hb);replace BK254 := am_ (blk_below (g := gb254) (o := .cells #[.int .i64 t237,.int .i64 t238,.int .i64 t239,.bool t240,.slice Ao9 t241.length co9,.slice Ao10 t244.length co10,.slice Ao11 t247.length co11,.slice Ao12 t250.length co12] 27 (0,0)) (zq BK254) hb);replace HB := zs_ HB hb;(try clear hb);(try clear hb2);(try clear hk);(try clear hi);(try clear ho0);(try clear ho1);(try clear ho2);(try clear ho3)) | ((with_reducible refine gate_dst (N := 7) rfl ?_);refine zbx (N := 7) (cs := #[.int .i64 0,.int .i64 0,.int .i64 0,.bool false,.slice none 0 0,.slice none 0 0,.slice none 0 0,.slice none 0 0]) (t := 27) ?_;intro gb272 hg w14 hbox hb;replace HO243 := am_ (Kd.S_below (by (with_reducible repeat (first | apply Kd.S_alloc | apply Kd.S_drewN | apply Kd.S_drew));exact HO243.out) hb);replace HO246 := am_ (Kd.S_below (by (with_reducible repeat (first | apply Kd.S_alloc | apply Kd.S_drewN | apply Kd.S_drew));exact HO246.out) hb);replace HO249 := zrb HO249 hb;replace HO252 := zrb HO252 hb;replace HO261 := am_ (Kd.S_below (by (with_reducible repeat (first | apply Kd.S_alloc | apply Kd.S_drewN | apply Kd.S_drew));exact HO261.out) hb);replace HO264 := am_ (Kd.S_below (by (with_reducible repeat (first | apply Kd.S_alloc | apply Kd.S_drewN | apply Kd.S_drew));exact HO264.out) hb);replace HO267 := zrb HO267 hb;replace HO270 := zrb HO270 hb;have BK272 := am_ (hbox);have GW272 := zw_ HB hg;have GE272 := zw_ HB hg;replace HB := zs_ HB hb;have NB254_272 := zl hg BK254;have NB272_254 := zg hg BK254;replace BK254 := zb BK254 hb;clear hb hbox hg;have hnb15 := NB272_254.out;have hnc15 := NB254_272.out;obtain ⟨hcz16_0,hcz16_1,hcz16_2,hcz16_3,hcz16_4,hcz16_5,hcz16_6,hcz16_7,hfz16_0,hfz16_1,hfz16_2,hfz16_3,hfz16_4,hfz16_5,hfz16_6,hfz16_7⟩ := zc8 BK272;obtain ⟨Ao17,co17,eo17⟩ := Kd.S_slice HO261.out;subst eo17;obtain ⟨Ao18,co18,eo18⟩ := Kd.S_slice HO264.out;subst eo18;obtain ⟨Ao19,co19,eo19⟩ := Kd.R_slice HO267.out;subst eo19;obtain ⟨Ao20,co20,eo20⟩ := Kd.R_slice HO270.out;subst eo20))
 (try simp only [Act.put,p1_,p2_,p3_])
 go_cut [33] (fun v33 wc => ∃ (kq : Nat) (x33_4 : Bool),v33 = .bool x33_4 ∧ Aside0 (laws_FnExactNewReplica.j0 kq a0 a1 t253 x33_4 t237 t238 t239 t240 t241 t244 t247 t250 t255 t256 t257 t258 t259 t262 t265 t268 = some r) ∧ Aside0 (kq ≤ k) ∧ Aside0 (Kd.S k51 51 wc w.heap.size (fun k_ => some k_ ≠ ((.slice Ao12 t250.length co12) : Value).ownBlock ∧ some k_ ≠ ((.slice Ao17 t259.length co17) : Value).ownBlock ∧ some k_ ≠ ((.slice Ao20 t268.length co20) : Value).ownBlock) (.slice Ao9 t241.length co9) t241) ∧ Aside0 (Kd.S k46 46 wc w.heap.size (fun k_ => some k_ ≠ ((.slice Ao12 t250.length co12) : Value).ownBlock ∧ some k_ ≠ ((.slice Ao18 t262.length co18) : Value).ownBlock ∧ some k_ ≠ ((.slice Ao20 t268.length co20) : Value).ownBlock) (.slice Ao10 t244.length co10) t244) ∧ Aside0 (Kd.R Kd.string 9 wc w.heap.size (fun k_ => some k_ ≠ ((.slice Ao19 t265.length co19) : Value).ownBlock) (.slice Ao11 t247.length co11) t247) ∧ Aside0 (Kd.R k55 55 wc w.heap.size (fun k_ => some k_ ≠ ((.slice Ao20 t268.length co20) : Value).ownBlock) (.slice Ao12 t250.length co12) t250) ∧ Aside0 (Kd.S k51 51 wc w.heap.size (fun k_ => some k_ ≠ ((.slice Ao9 t241.length co9) : Value).ownBlock ∧ some k_ ≠ ((.slice Ao12 t250.length co12) : Value).ownBlock ∧ some k_ ≠ ((.slice Ao20 t268.length co20) : Value).ownBlock) (.slice Ao17 t259.length co17) t259) ∧ Aside0 (Kd.S k46 46 wc w.heap.size (fun k_ => some k_ ≠ ((.slice Ao10 t244.length co10) : Value).ownBlock ∧ some k_ ≠ ((.slice Ao12 t250.length co12) : Value).ownBlock ∧ some k_ ≠ ((.slice Ao20 t268.length co20) : Value).ownBlock) (.slice Ao18 t262.length co18) t262) ∧ Aside0 (Kd.R Kd.string 9 wc w.heap.size (fun k_ => some k_ ≠ ((.slice Ao11 t247.length co11) : Value).ownBlock) (.slice Ao19 t265.length co19) t265) ∧ Aside0 (Kd.R k55 55 wc w.heap.size (fun k_ => some k_ ≠ ((.slice Ao12 t250.length co12) : Value).ownBlock) (.slice Ao20 t268.length co20) t268) ∧ Aside0 (wc.heap[gb254]? = some (.cells #[.int .i64 t237,.int .i64 t238,.int .i64 t239,.bool t240,(.slice Ao9 t241.length co9),(.slice Ao10 t244.length co10),(.slice Ao11 t247.length co11),(.slice Ao12 t250.length co12)] 27 (0,0))) ∧ Aside0 (wc.heap[gb272]? = some (.cells #[.int .i64 t255,.int .i64 t256,.int .i64 t257,.bool t258,(.slice Ao17 t259.length co17),(.slice Ao18 t262.length co18),(.slice Ao19 t265.length co19),(.slice Ao20 t268.length co20)] 27 (0,0))) ∧ Aside0 (Below w.heap.size w wc))
 case first =>
  have H := HC5.out
  clear HC5
  replace H := Option.bind_eq_some_iff.mp H
  obtain ⟨t273,A210,H⟩ := H
  try dsimp only at H
  have A21 := am_ A210
  clear A210
  by_cases c22 : t273 = true
  ·subst c22
   have H1 : (laws_FnExactNewReplica.j0 k a0 a1 t253 (t271 != t253) t237 t238 t239 t240 t241 t244 t247 t250 t255 t256 t257 t258 t259 t262 t265 t268) = some r := by rw [if_pos rfl] at H;exact H
   clear H
   have H := H1
   clear H1
   have H' := am_ H
   clear H
   have hnb23 := NB272_254.out
   have hnc23 := NB254_272.out
   obtain ⟨hcz24_0,hcz24_1,hcz24_2,hcz24_3,hcz24_4,hcz24_5,hcz24_6,hcz24_7,hfz24_0,hfz24_1,hfz24_2,hfz24_3,hfz24_4,hfz24_5,hfz24_6,hfz24_7⟩ := zc8 BK272
   obtain ⟨hcz25_0,hcz25_1,hcz25_2,hcz25_3,hcz25_4,hcz25_5,hcz25_6,hcz25_7,hfz25_0,hfz25_1,hfz25_2,hfz25_3,hfz25_4,hfz25_5,hfz25_6,hfz25_7⟩ := zc8 BK254
   go_wp2_with (first | ((with_reducible refine gate_callee (f := 6) rfl ?_);refine zgl (some 27) Try.func6 #[.agg #[.int .i64 t255,.int .i64 t256,.int .i64 t257,.bool t258,.slice Ao17 t259.length co17,.slice Ao18 t262.length co18,.slice Ao19 t265.length co19,.slice Ao20 t268.length co20],.agg #[.int .i64 t237,.int .i64 t238,.int .i64 t239,.bool t240,.slice Ao9 t241.length co9,.slice Ao10 t244.length co10,.slice Ao11 t247.length co11,.slice Ao12 t250.length co12]] ?_;(with_reducible refine (laws_eqReplica.calls k t255 t256 t257 t258 _ _ t259 _ _ t262 _ _ t265 _ _ t268 t237 t238 t239 t240 _ _ t241 _ _ t244 _ _ t247 _ _ t250 true _ ?side1 ?side2 ?side3 ?side4 ?side5 ?side6 ?side7 ?side8 ?side9 ?side10 ?side11 ?side12 ?side13 ?side14 ?side15 ?side16 A21.out).mono ?_);(case side1 => refine (Kd.S_reads' (e := 51) (base := w.heap.size) (ok := fun k_ => ((some k_ ≠ (.slice Ao20 t268.length co20 : Value).ownBlock ∧ some k_ ≠ (.slice Ao9 t241.length co9 : Value).ownBlock) ∧ some k_ ≠ (.slice Ao12 t250.length co12 : Value).ownBlock)) (n := t259.length) (c := co17) ?_).2.2;exact (by (with_reducible repeat (first | apply Kd.S_alloc | apply Kd.S_drewN | apply Kd.S_drew));exact (Kd.S_mono (Kd.S_far (p := ⟨gb272,7,none⟩) (Kd.S_far (p := ⟨gb272,6,none⟩) (Kd.S_far (p := ⟨gb272,5,none⟩) (Kd.S_far (p := ⟨gb272,4,none⟩) (Kd.S_far (p := ⟨gb272,3,none⟩) (Kd.S_far (p := ⟨gb272,2,none⟩) (Kd.S_far (p := ⟨gb272,1,none⟩) (Kd.S_far (p := ⟨gb272,0,none⟩) (Kd.S_types HO261.out BK272.out (by decide)) (fun _ hk => hk.2) (.int .i64 t255)) (fun _ hk => hk.2) (.int .i64 t256)) (fun _ hk => hk.2) (.int .i64 t257)) (fun _ hk => hk.2) (.bool t258)) (fun _ hk => hk.2) (.slice Ao17 t259.length co17)) (fun _ hk => hk.2) (.slice Ao18 t262.length co18)) (fun _ hk => hk.2) (.slice Ao19 t265.length co19)) (fun _ hk => hk.2) (.slice Ao20 t268.length co20)) (fun _ h_ => h_.1))));(case side2 => exact (Kd.S_reads' HO261.out).2.1);(case side3 => refine (Kd.S_reads' (e := 46) (base := w.heap.size) (ok := fun k_ => ((some k_ ≠ (.slice Ao20 t268.length co20 : Value).ownBlock ∧ some k_ ≠ (.slice Ao10 t244.length co10 : Value).ownBlock) ∧ some k_ ≠ (.slice Ao12 t250.length co12 : Value).ownBlock)) (n := t262.length) (c := co18) ?_).2.2;exact (by (with_reducible repeat (first | apply Kd.S_alloc | apply Kd.S_drewN | apply Kd.S_drew));exact (Kd.S_mono (Kd.S_far (p := ⟨gb272,7,none⟩) (Kd.S_far (p := ⟨gb272,6,none⟩) (Kd.S_far (p := ⟨gb272,5,none⟩) (Kd.S_far (p := ⟨gb272,4,none⟩) (Kd.S_far (p := ⟨gb272,3,none⟩) (Kd.S_far (p := ⟨gb272,2,none⟩) (Kd.S_far (p := ⟨gb272,1,none⟩) (Kd.S_far (p := ⟨gb272,0,none⟩) (Kd.S_types HO264.out BK272.out (by decide)) (fun _ hk => hk.2) (.int .i64 t255)) (fun _ hk => hk.2) (.int .i64 t256)) (fun _ hk => hk.2) (.int .i64 t257)) (fun _ hk => hk.2) (.bool t258)) (fun _ hk => hk.2) (.slice Ao17 t259.length co17)) (fun _ hk => hk.2) (.slice Ao18 t262.length co18)) (fun _ hk => hk.2) (.slice Ao19 t265.length co19)) (fun _ hk => hk.2) (.slice Ao20 t268.length co20)) (fun _ h_ => h_.1))));(case side4 => exact (Kd.S_reads' HO264.out).2.1);(case side5 => refine (Kd.R_reads' (e := 9) (base := w.heap.size) (ok := fun k_ => (True ∧ some k_ ≠ (.slice Ao11 t247.length co11 : Value).ownBlock)) (n := t265.length) (c := co19) ?_).2.2;exact (by (with_reducible repeat (first | apply r1_ | apply r2_ | apply r3_));exact (Kd.R_mono (zrf (Kd.R_types HO267.out BK272.out (by decide))) (fun _ h_ => h_.1))));(case side6 => exact (Kd.R_reads' HO267.out).2.1);(case side7 => refine (Kd.R_reads' (e := 55) (base := w.heap.size) (ok := fun k_ => (True ∧ some k_ ≠ (.slice Ao12 t250.length co12 : Value).ownBlock)) (n := t268.length) (c := co20) ?_).2.2;exact (by (with_reducible repeat (first | apply r1_ | apply r2_ | apply r3_));exact (Kd.R_mono (zrf (Kd.R_types HO270.out BK272.out (by decide))) (fun _ h_ => h_.1))));(case side8 => exact (Kd.R_reads' HO270.out).2.1);(case side9 => refine (Kd.S_reads' (e := 51) (base := w.heap.size) (ok := fun k_ => ((some k_ ≠ (.slice Ao12 t250.length co12 : Value).ownBlock ∧ some k_ ≠ (.slice Ao17 t259.length co17 : Value).ownBlock) ∧ some k_ ≠ (.slice Ao20 t268.length co20 : Value).ownBlock)) (n := t241.length) (c := co9) ?_).2.2;exact (by (with_reducible repeat (first | apply Kd.S_alloc | apply Kd.S_drewN | apply Kd.S_drew));exact (Kd.S_mono (Kd.S_far (p := ⟨gb272,7,none⟩) (Kd.S_far (p := ⟨gb272,6,none⟩) (Kd.S_far (p := ⟨gb272,5,none⟩) (Kd.S_far (p := ⟨gb272,4,none⟩) (Kd.S_far (p := ⟨gb272,3,none⟩) (Kd.S_far (p := ⟨gb272,2,none⟩) (Kd.S_far (p := ⟨gb272,1,none⟩) (Kd.S_far (p := ⟨gb272,0,none⟩) (Kd.S_types HO243.out BK272.out (by decide)) (fun _ hk => hk.2) (.int .i64 t255)) (fun _ hk => hk.2) (.int .i64 t256)) (fun _ hk => hk.2) (.int .i64 t257)) (fun _ hk => hk.2) (.bool t258)) (fun _ hk => hk.2) (.slice Ao17 t259.length co17)) (fun _ hk => hk.2) (.slice Ao18 t262.length co18)) (fun _ hk => hk.2) (.slice Ao19 t265.length co19)) (fun _ hk => hk.2) (.slice Ao20 t268.length co20)) (fun _ h_ => h_.1))));(case side10 => exact (Kd.S_reads' HO243.out).2.1);(case side11 => refine (Kd.S_reads' (e := 46) (base := w.heap.size) (ok := fun k_ => ((some k_ ≠ (.slice Ao12 t250.length co12 : Value).ownBlock ∧ some k_ ≠ (.slice Ao18 t262.length co18 : Value).ownBlock) ∧ some k_ ≠ (.slice Ao20 t268.length co20 : Value).ownBlock)) (n := t244.length) (c := co10) ?_).2.2;exact (by (with_reducible repeat (first | apply Kd.S_alloc | apply Kd.S_drewN | apply Kd.S_drew));exact (Kd.S_mono (Kd.S_far (p := ⟨gb272,7,none⟩) (Kd.S_far (p := ⟨gb272,6,none⟩) (Kd.S_far (p := ⟨gb272,5,none⟩) (Kd.S_far (p := ⟨gb272,4,none⟩) (Kd.S_far (p := ⟨gb272,3,none⟩) (Kd.S_far (p := ⟨gb272,2,none⟩) (Kd.S_far (p := ⟨gb272,1,none⟩) (Kd.S_far (p := ⟨gb272,0,none⟩) (Kd.S_types HO246.out BK272.out (by decide)) (fun _ hk => hk.2) (.int .i64 t255)) (fun _ hk => hk.2) (.int .i64 t256)) (fun _ hk => hk.2) (.int .i64 t257)) (fun _ hk => hk.2) (.bool t258)) (fun _ hk => hk.2) (.slice Ao17 t259.length co17)) (fun _ hk => hk.2) (.slice Ao18 t262.length co18)) (fun _ hk => hk.2) (.slice Ao19 t265.length co19)) (fun _ hk => hk.2) (.slice Ao20 t268.length co20)) (fun _ h_ => h_.1))));(case side12 => exact (Kd.S_reads' HO246.out).2.1);(case side13 => refine (Kd.R_reads' (e := 9) (base := w.heap.size) (ok := fun k_ => (True ∧ some k_ ≠ (.slice Ao19 t265.length co19 : Value).ownBlock)) (n := t247.length) (c := co11) ?_).2.2;exact (by (with_reducible repeat (first | apply r1_ | apply r2_ | apply r3_));exact (Kd.R_mono (zrf (Kd.R_types HO249.out BK272.out (by decide))) (fun _ h_ => h_.1))));(case side14 => exact (Kd.R_reads' HO249.out).2.1);(case side15 => refine (Kd.R_reads' (e := 55) (base := w.heap.size) (ok := fun k_ => (True ∧ some k_ ≠ (.slice Ao20 t268.length co20 : Value).ownBlock)) (n := t250.length) (c := co12) ?_).2.2;exact (by (with_reducible repeat (first | apply r1_ | apply r2_ | apply r3_));exact (Kd.R_mono (zrf (Kd.R_types HO252.out BK272.out (by decide))) (fun _ h_ => h_.1))));(case side16 => exact (Kd.R_reads' HO252.out).2.1);rintro e w26 ⟨rfl,hb⟩;refine ⟨_,rfl,?_⟩;replace HO243 := am_ (Kd.S_below (by (with_reducible repeat (first | apply Kd.S_alloc | apply Kd.S_drewN | apply Kd.S_drew));exact (Kd.S_mono (Kd.S_far (p := ⟨gb272,7,none⟩) (Kd.S_far (p := ⟨gb272,6,none⟩) (Kd.S_far (p := ⟨gb272,5,none⟩) (Kd.S_far (p := ⟨gb272,4,none⟩) (Kd.S_far (p := ⟨gb272,3,none⟩) (Kd.S_far (p := ⟨gb272,2,none⟩) (Kd.S_far (p := ⟨gb272,1,none⟩) (Kd.S_far (p := ⟨gb272,0,none⟩) (Kd.S_types HO243.out BK272.out (by decide)) (fun _ hk => hk.2) (.int .i64 t255)) (fun _ hk => hk.2) (.int .i64 t256)) (fun _ hk => hk.2) (.int .i64 t257)) (fun _ hk => hk.2) (.bool t258)) (fun _ hk => hk.2) (.slice Ao17 t259.length co17)) (fun _ hk => hk.2) (.slice Ao18 t262.length co18)) (fun _ hk => hk.2) (.slice Ao19 t265.length co19)) (fun _ hk => hk.2) (.slice Ao20 t268.length co20)) (fun _ h_ => h_.1))) hb);replace HO246 := am_ (Kd.S_below (by (with_reducible repeat (first | apply Kd.S_alloc | apply Kd.S_drewN | apply Kd.S_drew));exact (Kd.S_mono (Kd.S_far (p := ⟨gb272,7,none⟩) (Kd.S_far (p := ⟨gb272,6,none⟩) (Kd.S_far (p := ⟨gb272,5,none⟩) (Kd.S_far (p := ⟨gb272,4,none⟩) (Kd.S_far (p := ⟨gb272,3,none⟩) (Kd.S_far (p := ⟨gb272,2,none⟩) (Kd.S_far (p := ⟨gb272,1,none⟩) (Kd.S_far (p := ⟨gb272,0,none⟩) (Kd.S_types HO246.out BK272.out (by decide)) (fun _ hk => hk.2) (.int .i64 t255)) (fun _ hk => hk.2) (.int .i64 t256)) (fun _ hk => hk.2) (.int .i64 t257)) (fun _ hk => hk.2) (.bool t258)) (fun _ hk => hk.2) (.slice Ao17 t259.length co17)) (fun _ hk => hk.2) (.slice Ao18 t262.length co18)) (fun _ hk => hk.2) (.slice Ao19 t265.length co19)) (fun _ hk => hk.2) (.slice Ao20 t268.length co20)) (fun _ h_ => h_.1))) hb);replace HO249 := am_ (Kd.R_below (by (with_reducible repeat (first | apply r1_ | apply r2_ | apply r3_));exact (Kd.R_mono (zrf (Kd.R_types HO249.out BK272.out (by decide))) (fun _ h_ => h_.1))) hb);replace HO252 := am_ (Kd.R_below (by (with_reducible repeat (first | apply r1_ | apply r2_ | apply r3_));exact (Kd.R_mono (zrf (Kd.R_types HO252.out BK272.out (by decide))) (fun _ h_ => h_.1))) hb);replace HO261 := am_ (Kd.S_below (by (with_reducible repeat (first | apply Kd.S_alloc | apply Kd.S_drewN | apply Kd.S_drew));exact (Kd.S_mono (Kd.S_far (p := ⟨gb272,7,none⟩) (Kd.S_far (p := ⟨gb272,6,none⟩) (Kd.S_far (p := ⟨gb272,5,none⟩) (Kd.S_far (p := ⟨gb272,4,none⟩) (Kd.S_far (p := ⟨gb272,3,none⟩) (Kd.S_far (p := ⟨gb272,2,none⟩) (Kd.S_far (p := ⟨gb272,1,none⟩) (Kd.S_far (p := ⟨gb272,0,none⟩) (Kd.S_types HO261.out BK272.out (by decide)) (fun _ hk => hk.2) (.int .i64 t255)) (fun _ hk => hk.2) (.int .i64 t256)) (fun _ hk => hk.2) (.int .i64 t257)) (fun _ hk => hk.2) (.bool t258)) (fun _ hk => hk.2) (.slice Ao17 t259.length co17)) (fun _ hk => hk.2) (.slice Ao18 t262.length co18)) (fun _ hk => hk.2) (.slice Ao19 t265.length co19)) (fun _ hk => hk.2) (.slice Ao20 t268.length co20)) (fun _ h_ => h_.1))) hb);replace HO264 := am_ (Kd.S_below (by (with_reducible repeat (first | apply Kd.S_alloc | apply Kd.S_drewN | apply Kd.S_drew));exact (Kd.S_mono (Kd.S_far (p := ⟨gb272,7,none⟩) (Kd.S_far (p := ⟨gb272,6,none⟩) (Kd.S_far (p := ⟨gb272,5,none⟩) (Kd.S_far (p := ⟨gb272,4,none⟩) (Kd.S_far (p := ⟨gb272,3,none⟩) (Kd.S_far (p := ⟨gb272,2,none⟩) (Kd.S_far (p := ⟨gb272,1,none⟩) (Kd.S_far (p := ⟨gb272,0,none⟩) (Kd.S_types HO264.out BK272.out (by decide)) (fun _ hk => hk.2) (.int .i64 t255)) (fun _ hk => hk.2) (.int .i64 t256)) (fun _ hk => hk.2) (.int .i64 t257)) (fun _ hk => hk.2) (.bool t258)) (fun _ hk => hk.2) (.slice Ao17 t259.length co17)) (fun _ hk => hk.2) (.slice Ao18 t262.length co18)) (fun _ hk => hk.2) (.slice Ao19 t265.length co19)) (fun _ hk => hk.2) (.slice Ao20 t268.length co20)) (fun _ h_ => h_.1))) hb);replace HO267 := am_ (Kd.R_below (by (with_reducible repeat (first | apply r1_ | apply r2_ | apply r3_));exact (Kd.R_mono (zrf (Kd.R_types HO267.out BK272.out (by decide))) (fun _ h_ => h_.1))) hb);replace HO270 := am_ (Kd.R_below (by (with_reducible repeat (first | apply r1_ | apply r2_ | apply r3_));exact (Kd.R_mono (zrf (Kd.R_types HO270.out BK272.out (by decide))) (fun _ h_ => h_.1))) hb);replace BK254 := am_ (blk_below (g := gb254) (o := .cells #[.int .i64 t237,.int .i64 t238,.int .i64 t239,.bool t240,.slice Ao9 t241.length co9,.slice Ao10 t244.length co10,.slice Ao11 t247.length co11,.slice Ao12 t250.length co12] 27 (0,0)) (zq BK254) hb);replace BK272 := am_ (blk_below (g := gb272) (o := .cells #[.int .i64 t255,.int .i64 t256,.int .i64 t257,.bool t258,.slice Ao17 t259.length co17,.slice Ao18 t262.length co18,.slice Ao19 t265.length co19,.slice Ao20 t268.length co20] 27 (0,0)) (zq BK272) hb);replace HB := zs_ HB hb;(try clear hb);(try clear hb2);(try clear hk);(try clear hi)))
   go_meet
   case rel => exact ⟨_,((t271 != t253)),(by first | rfl | (simp;done) | (simp [*];done)),H',⟨by first | omega | exact Nat.le_refl _⟩,⟨by (with_reducible repeat (first | apply Kd.S_alloc | apply Kd.S_drewN | apply Kd.S_drew));exact Kd.S_mono HO243.out (fun _ hk => ⟨hk.1.1,⟨hk.1.2,hk.2⟩⟩)⟩,⟨by (with_reducible repeat (first | apply Kd.S_alloc | apply Kd.S_drewN | apply Kd.S_drew));exact Kd.S_mono HO246.out (fun _ hk => ⟨hk.1.1,⟨hk.1.2,hk.2⟩⟩)⟩,⟨by (with_reducible repeat (first | apply r1_ | apply r2_ | apply r3_));exact Kd.R_mono HO249.out (fun _ hk => hk.2)⟩,⟨by (with_reducible repeat (first | apply r1_ | apply r2_ | apply r3_));exact Kd.R_mono HO252.out (fun _ hk => hk.2)⟩,⟨by (with_reducible repeat (first | apply Kd.S_alloc | apply Kd.S_drewN | apply Kd.S_drew));exact Kd.S_mono HO261.out (fun _ hk => ⟨hk.1.2,⟨hk.2,hk.1.1⟩⟩)⟩,⟨by (with_reducible repeat (first | apply Kd.S_alloc | apply Kd.S_drewN | apply Kd.S_drew));exact Kd.S_mono HO264.out (fun _ hk => ⟨hk.1.2,⟨hk.2,hk.1.1⟩⟩)⟩,⟨by (with_reducible repeat (first | apply r1_ | apply r2_ | apply r3_));exact Kd.R_mono HO267.out (fun _ hk => hk.2)⟩,⟨by (with_reducible repeat (first | apply r1_ | apply r2_ | apply r3_));exact Kd.R_mono HO270.out (fun _ hk => hk.2)⟩,⟨by (with_reducible repeat (first | apply k1_ | apply k2_ | apply k3_));exact BK254.out⟩,⟨by (with_reducible repeat (first | apply k1_ | apply k2_ | apply k3_));exact BK272.out⟩,⟨zl_ HB⟩⟩
  ·replace c22 := Bool.eq_false_iff.mpr c22
   subst c22
   have H1 : (laws_FnExactNewReplica.j0 k a0 a1 t253 true t237 t238 t239 t240 t241 t244 t247 t250 t255 t256 t257 t258 t259 t262 t265 t268) = some r := by rw [if_neg (show ¬ (false = true) by decide)] at H;exact H
   clear H
   have H := H1
   clear H1
   have H' := am_ H
   clear H
   have hnb27 := NB272_254.out
   have hnc27 := NB254_272.out
   obtain ⟨hcz28_0,hcz28_1,hcz28_2,hcz28_3,hcz28_4,hcz28_5,hcz28_6,hcz28_7,hfz28_0,hfz28_1,hfz28_2,hfz28_3,hfz28_4,hfz28_5,hfz28_6,hfz28_7⟩ := zc8 BK272
   obtain ⟨hcz29_0,hcz29_1,hcz29_2,hcz29_3,hcz29_4,hcz29_5,hcz29_6,hcz29_7,hfz29_0,hfz29_1,hfz29_2,hfz29_3,hfz29_4,hfz29_5,hfz29_6,hfz29_7⟩ := zc8 BK254
   go_wp2_with (first | ((with_reducible refine gate_callee (f := 6) rfl ?_);refine zgl (some 27) Try.func6 #[.agg #[.int .i64 t255,.int .i64 t256,.int .i64 t257,.bool t258,.slice Ao17 t259.length co17,.slice Ao18 t262.length co18,.slice Ao19 t265.length co19,.slice Ao20 t268.length co20],.agg #[.int .i64 t237,.int .i64 t238,.int .i64 t239,.bool t240,.slice Ao9 t241.length co9,.slice Ao10 t244.length co10,.slice Ao11 t247.length co11,.slice Ao12 t250.length co12]] ?_;(with_reducible refine (laws_eqReplica.calls k t255 t256 t257 t258 _ _ t259 _ _ t262 _ _ t265 _ _ t268 t237 t238 t239 t240 _ _ t241 _ _ t244 _ _ t247 _ _ t250 false _ ?side1 ?side2 ?side3 ?side4 ?side5 ?side6 ?side7 ?side8 ?side9 ?side10 ?side11 ?side12 ?side13 ?side14 ?side15 ?side16 A21.out).mono ?_);(case side1 => refine (Kd.S_reads' (e := 51) (base := w.heap.size) (ok := fun k_ => ((some k_ ≠ (.slice Ao20 t268.length co20 : Value).ownBlock ∧ some k_ ≠ (.slice Ao9 t241.length co9 : Value).ownBlock) ∧ some k_ ≠ (.slice Ao12 t250.length co12 : Value).ownBlock)) (n := t259.length) (c := co17) ?_).2.2;exact (by (with_reducible repeat (first | apply Kd.S_alloc | apply Kd.S_drewN | apply Kd.S_drew));exact (Kd.S_mono (Kd.S_far (p := ⟨gb272,7,none⟩) (Kd.S_far (p := ⟨gb272,6,none⟩) (Kd.S_far (p := ⟨gb272,5,none⟩) (Kd.S_far (p := ⟨gb272,4,none⟩) (Kd.S_far (p := ⟨gb272,3,none⟩) (Kd.S_far (p := ⟨gb272,2,none⟩) (Kd.S_far (p := ⟨gb272,1,none⟩) (Kd.S_far (p := ⟨gb272,0,none⟩) (Kd.S_types HO261.out BK272.out (by decide)) (fun _ hk => hk.2) (.int .i64 t255)) (fun _ hk => hk.2) (.int .i64 t256)) (fun _ hk => hk.2) (.int .i64 t257)) (fun _ hk => hk.2) (.bool t258)) (fun _ hk => hk.2) (.slice Ao17 t259.length co17)) (fun _ hk => hk.2) (.slice Ao18 t262.length co18)) (fun _ hk => hk.2) (.slice Ao19 t265.length co19)) (fun _ hk => hk.2) (.slice Ao20 t268.length co20)) (fun _ h_ => h_.1))));(case side2 => exact (Kd.S_reads' HO261.out).2.1);(case side3 => refine (Kd.S_reads' (e := 46) (base := w.heap.size) (ok := fun k_ => ((some k_ ≠ (.slice Ao20 t268.length co20 : Value).ownBlock ∧ some k_ ≠ (.slice Ao10 t244.length co10 : Value).ownBlock) ∧ some k_ ≠ (.slice Ao12 t250.length co12 : Value).ownBlock)) (n := t262.length) (c := co18) ?_).2.2;exact (by (with_reducible repeat (first | apply Kd.S_alloc | apply Kd.S_drewN | apply Kd.S_drew));exact (Kd.S_mono (Kd.S_far (p := ⟨gb272,7,none⟩) (Kd.S_far (p := ⟨gb272,6,none⟩) (Kd.S_far (p := ⟨gb272,5,none⟩) (Kd.S_far (p := ⟨gb272,4,none⟩) (Kd.S_far (p := ⟨gb272,3,none⟩) (Kd.S_far (p := ⟨gb272,2,none⟩) (Kd.S_far (p := ⟨gb272,1,none⟩) (Kd.S_far (p := ⟨gb272,0,none⟩) (Kd.S_types HO264.out BK272.out (by decide)) (fun _ hk => hk.2) (.int .i64 t255)) (fun _ hk => hk.2) (.int .i64 t256)) (fun _ hk => hk.2) (.int .i64 t257)) (fun _ hk => hk.2) (.bool t258)) (fun _ hk => hk.2) (.slice Ao17 t259.length co17)) (fun _ hk => hk.2) (.slice Ao18 t262.length co18)) (fun _ hk => hk.2) (.slice Ao19 t265.length co19)) (fun _ hk => hk.2) (.slice Ao20 t268.length co20)) (fun _ h_ => h_.1))));(case side4 => exact (Kd.S_reads' HO264.out).2.1);(case side5 => refine (Kd.R_reads' (e := 9) (base := w.heap.size) (ok := fun k_ => (True ∧ some k_ ≠ (.slice Ao11 t247.length co11 : Value).ownBlock)) (n := t265.length) (c := co19) ?_).2.2;exact (by (with_reducible repeat (first | apply r1_ | apply r2_ | apply r3_));exact (Kd.R_mono (zrf (Kd.R_types HO267.out BK272.out (by decide))) (fun _ h_ => h_.1))));(case side6 => exact (Kd.R_reads' HO267.out).2.1);(case side7 => refine (Kd.R_reads' (e := 55) (base := w.heap.size) (ok := fun k_ => (True ∧ some k_ ≠ (.slice Ao12 t250.length co12 : Value).ownBlock)) (n := t268.length) (c := co20) ?_).2.2;exact (by (with_reducible repeat (first | apply r1_ | apply r2_ | apply r3_));exact (Kd.R_mono (zrf (Kd.R_types HO270.out BK272.out (by decide))) (fun _ h_ => h_.1))));(case side8 => exact (Kd.R_reads' HO270.out).2.1);(case side9 => refine (Kd.S_reads' (e := 51) (base := w.heap.size) (ok := fun k_ => ((some k_ ≠ (.slice Ao12 t250.length co12 : Value).ownBlock ∧ some k_ ≠ (.slice Ao17 t259.length co17 : Value).ownBlock) ∧ some k_ ≠ (.slice Ao20 t268.length co20 : Value).ownBlock)) (n := t241.length) (c := co9) ?_).2.2;exact (by (with_reducible repeat (first | apply Kd.S_alloc | apply Kd.S_drewN | apply Kd.S_drew));exact (Kd.S_mono (Kd.S_far (p := ⟨gb272,7,none⟩) (Kd.S_far (p := ⟨gb272,6,none⟩) (Kd.S_far (p := ⟨gb272,5,none⟩) (Kd.S_far (p := ⟨gb272,4,none⟩) (Kd.S_far (p := ⟨gb272,3,none⟩) (Kd.S_far (p := ⟨gb272,2,none⟩) (Kd.S_far (p := ⟨gb272,1,none⟩) (Kd.S_far (p := ⟨gb272,0,none⟩) (Kd.S_types HO243.out BK272.out (by decide)) (fun _ hk => hk.2) (.int .i64 t255)) (fun _ hk => hk.2) (.int .i64 t256)) (fun _ hk => hk.2) (.int .i64 t257)) (fun _ hk => hk.2) (.bool t258)) (fun _ hk => hk.2) (.slice Ao17 t259.length co17)) (fun _ hk => hk.2) (.slice Ao18 t262.length co18)) (fun _ hk => hk.2) (.slice Ao19 t265.length co19)) (fun _ hk => hk.2) (.slice Ao20 t268.length co20)) (fun _ h_ => h_.1))));(case side10 => exact (Kd.S_reads' HO243.out).2.1);(case side11 => refine (Kd.S_reads' (e := 46) (base := w.heap.size) (ok := fun k_ => ((some k_ ≠ (.slice Ao12 t250.length co12 : Value).ownBlock ∧ some k_ ≠ (.slice Ao18 t262.length co18 : Value).ownBlock) ∧ some k_ ≠ (.slice Ao20 t268.length co20 : Value).ownBlock)) (n := t244.length) (c := co10) ?_).2.2;exact (by (with_reducible repeat (first | apply Kd.S_alloc | apply Kd.S_drewN | apply Kd.S_drew));exact (Kd.S_mono (Kd.S_far (p := ⟨gb272,7,none⟩) (Kd.S_far (p := ⟨gb272,6,none⟩) (Kd.S_far (p := ⟨gb272,5,none⟩) (Kd.S_far (p := ⟨gb272,4,none⟩) (Kd.S_far (p := ⟨gb272,3,none⟩) (Kd.S_far (p := ⟨gb272,2,none⟩) (Kd.S_far (p := ⟨gb272,1,none⟩) (Kd.S_far (p := ⟨gb272,0,none⟩) (Kd.S_types HO246.out BK272.out (by decide)) (fun _ hk => hk.2) (.int .i64 t255)) (fun _ hk => hk.2) (.int .i64 t256)) (fun _ hk => hk.2) (.int .i64 t257)) (fun _ hk => hk.2) (.bool t258)) (fun _ hk => hk.2) (.slice Ao17 t259.length co17)) (fun _ hk => hk.2) (.slice Ao18 t262.length co18)) (fun _ hk => hk.2) (.slice Ao19 t265.length co19)) (fun _ hk => hk.2) (.slice Ao20 t268.length co20)) (fun _ h_ => h_.1))));(case side12 => exact (Kd.S_reads' HO246.out).2.1);(case side13 => refine (Kd.R_reads' (e := 9) (base := w.heap.size) (ok := fun k_ => (True ∧ some k_ ≠ (.slice Ao19 t265.length co19 : Value).ownBlock)) (n := t247.length) (c := co11) ?_).2.2;exact (by (with_reducible repeat (first | apply r1_ | apply r2_ | apply r3_));exact (Kd.R_mono (zrf (Kd.R_types HO249.out BK272.out (by decide))) (fun _ h_ => h_.1))));(case side14 => exact (Kd.R_reads' HO249.out).2.1);(case side15 => refine (Kd.R_reads' (e := 55) (base := w.heap.size) (ok := fun k_ => (True ∧ some k_ ≠ (.slice Ao20 t268.length co20 : Value).ownBlock)) (n := t250.length) (c := co12) ?_).2.2;exact (by (with_reducible repeat (first | apply r1_ | apply r2_ | apply r3_));exact (Kd.R_mono (zrf (Kd.R_types HO252.out BK272.out (by decide))) (fun _ h_ => h_.1))));(case side16 => exact (Kd.R_reads' HO252.out).2.1);rintro e w30 ⟨rfl,hb⟩;refine ⟨_,rfl,?_⟩;replace HO243 := am_ (Kd.S_below (by (with_reducible repeat (first | apply Kd.S_alloc | apply Kd.S_drewN | apply Kd.S_drew));exact (Kd.S_mono (Kd.S_far (p := ⟨gb272,7,none⟩) (Kd.S_far (p := ⟨gb272,6,none⟩) (Kd.S_far (p := ⟨gb272,5,none⟩) (Kd.S_far (p := ⟨gb272,4,none⟩) (Kd.S_far (p := ⟨gb272,3,none⟩) (Kd.S_far (p := ⟨gb272,2,none⟩) (Kd.S_far (p := ⟨gb272,1,none⟩) (Kd.S_far (p := ⟨gb272,0,none⟩) (Kd.S_types HO243.out BK272.out (by decide)) (fun _ hk => hk.2) (.int .i64 t255)) (fun _ hk => hk.2) (.int .i64 t256)) (fun _ hk => hk.2) (.int .i64 t257)) (fun _ hk => hk.2) (.bool t258)) (fun _ hk => hk.2) (.slice Ao17 t259.length co17)) (fun _ hk => hk.2) (.slice Ao18 t262.length co18)) (fun _ hk => hk.2) (.slice Ao19 t265.length co19)) (fun _ hk => hk.2) (.slice Ao20 t268.length co20)) (fun _ h_ => h_.1))) hb);replace HO246 := am_ (Kd.S_below (by (with_reducible repeat (first | apply Kd.S_alloc | apply Kd.S_drewN | apply Kd.S_drew));exact (Kd.S_mono (Kd.S_far (p := ⟨gb272,7,none⟩) (Kd.S_far (p := ⟨gb272,6,none⟩) (Kd.S_far (p := ⟨gb272,5,none⟩) (Kd.S_far (p := ⟨gb272,4,none⟩) (Kd.S_far (p := ⟨gb272,3,none⟩) (Kd.S_far (p := ⟨gb272,2,none⟩) (Kd.S_far (p := ⟨gb272,1,none⟩) (Kd.S_far (p := ⟨gb272,0,none⟩) (Kd.S_types HO246.out BK272.out (by decide)) (fun _ hk => hk.2) (.int .i64 t255)) (fun _ hk => hk.2) (.int .i64 t256)) (fun _ hk => hk.2) (.int .i64 t257)) (fun _ hk => hk.2) (.bool t258)) (fun _ hk => hk.2) (.slice Ao17 t259.length co17)) (fun _ hk => hk.2) (.slice Ao18 t262.length co18)) (fun _ hk => hk.2) (.slice Ao19 t265.length co19)) (fun _ hk => hk.2) (.slice Ao20 t268.length co20)) (fun _ h_ => h_.1))) hb);replace HO249 := am_ (Kd.R_below (by (with_reducible repeat (first | apply r1_ | apply r2_ | apply r3_));exact (Kd.R_mono (zrf (Kd.R_types HO249.out BK272.out (by decide))) (fun _ h_ => h_.1))) hb);replace HO252 := am_ (Kd.R_below (by (with_reducible repeat (first | apply r1_ | apply r2_ | apply r3_));exact (Kd.R_mono (zrf (Kd.R_types HO252.out BK272.out (by decide))) (fun _ h_ => h_.1))) hb);replace HO261 := am_ (Kd.S_below (by (with_reducible repeat (first | apply Kd.S_alloc | apply Kd.S_drewN | apply Kd.S_drew));exact (Kd.S_mono (Kd.S_far (p := ⟨gb272,7,none⟩) (Kd.S_far (p := ⟨gb272,6,none⟩) (Kd.S_far (p := ⟨gb272,5,none⟩) (Kd.S_far (p := ⟨gb272,4,none⟩) (Kd.S_far (p := ⟨gb272,3,none⟩) (Kd.S_far (p := ⟨gb272,2,none⟩) (Kd.S_far (p := ⟨gb272,1,none⟩) (Kd.S_far (p := ⟨gb272,0,none⟩) (Kd.S_types HO261.out BK272.out (by decide)) (fun _ hk => hk.2) (.int .i64 t255)) (fun _ hk => hk.2) (.int .i64 t256)) (fun _ hk => hk.2) (.int .i64 t257)) (fun _ hk => hk.2) (.bool t258)) (fun _ hk => hk.2) (.slice Ao17 t259.length co17)) (fun _ hk => hk.2) (.slice Ao18 t262.length co18)) (fun _ hk => hk.2) (.slice Ao19 t265.length co19)) (fun _ hk => hk.2) (.slice Ao20 t268.length co20)) (fun _ h_ => h_.1))) hb);replace HO264 := am_ (Kd.S_below (by (with_reducible repeat (first | apply Kd.S_alloc | apply Kd.S_drewN | apply Kd.S_drew));exact (Kd.S_mono (Kd.S_far (p := ⟨gb272,7,none⟩) (Kd.S_far (p := ⟨gb272,6,none⟩) (Kd.S_far (p := ⟨gb272,5,none⟩) (Kd.S_far (p := ⟨gb272,4,none⟩) (Kd.S_far (p := ⟨gb272,3,none⟩) (Kd.S_far (p := ⟨gb272,2,none⟩) (Kd.S_far (p := ⟨gb272,1,none⟩) (Kd.S_far (p := ⟨gb272,0,none⟩) (Kd.S_types HO264.out BK272.out (by decide)) (fun _ hk => hk.2) (.int .i64 t255)) (fun _ hk => hk.2) (.int .i64 t256)) (fun _ hk => hk.2) (.int .i64 t257)) (fun _ hk => hk.2) (.bool t258)) (fun _ hk => hk.2) (.slice Ao17 t259.length co17)) (fun _ hk => hk.2) (.slice Ao18 t262.length co18)) (fun _ hk => hk.2) (.slice Ao19 t265.length co19)) (fun _ hk => hk.2) (.slice Ao20 t268.length co20)) (fun _ h_ => h_.1))) hb);replace HO267 := am_ (Kd.R_below (by (with_reducible repeat (first | apply r1_ | apply r2_ | apply r3_));exact (Kd.R_mono (zrf (Kd.R_types HO267.out BK272.out (by decide))) (fun _ h_ => h_.1))) hb);replace HO270 := am_ (Kd.R_below (by (with_reducible repeat (first | apply r1_ | apply r2_ | apply r3_));exact (Kd.R_mono (zrf (Kd.R_types HO270.out BK272.out (by decide))) (fun _ h_ => h_.1))) hb);replace BK254 := am_ (blk_below (g := gb254) (o := .cells #[.int .i64 t237,.int .i64 t238,.int .i64 t239,.bool t240,.slice Ao9 t241.length co9,.slice Ao10 t244.length co10,.slice Ao11 t247.length co11,.slice Ao12 t250.length co12] 27 (0,0)) (zq BK254) hb);replace BK272 := am_ (blk_below (g := gb272) (o := .cells #[.int .i64 t255,.int .i64 t256,.int .i64 t257,.bool t258,.slice Ao17 t259.length co17,.slice Ao18 t262.length co18,.slice Ao19 t265.length co19,.slice Ao20 t268.length co20] 27 (0,0)) (zq BK272) hb);replace HB := zs_ HB hb;(try clear hb);(try clear hb2);(try clear hk);(try clear hi)))
   go_meet
   case rel => exact ⟨_,(true),(by first | rfl | (simp;done) | (simp [*];done)),H',⟨by first | omega | exact Nat.le_refl _⟩,⟨by (with_reducible repeat (first | apply Kd.S_alloc | apply Kd.S_drewN | apply Kd.S_drew));exact Kd.S_mono HO243.out (fun _ hk => ⟨hk.1.1,⟨hk.1.2,hk.2⟩⟩)⟩,⟨by (with_reducible repeat (first | apply Kd.S_alloc | apply Kd.S_drewN | apply Kd.S_drew));exact Kd.S_mono HO246.out (fun _ hk => ⟨hk.1.1,⟨hk.1.2,hk.2⟩⟩)⟩,⟨by (with_reducible repeat (first | apply r1_ | apply r2_ | apply r3_));exact Kd.R_mono HO249.out (fun _ hk => hk.2)⟩,⟨by (with_reducible repeat (first | apply r1_ | apply r2_ | apply r3_));exact Kd.R_mono HO252.out (fun _ hk => hk.2)⟩,⟨by (with_reducible repeat (first | apply Kd.S_alloc | apply Kd.S_drewN | apply Kd.S_drew));exact Kd.S_mono HO261.out (fun _ hk => ⟨hk.1.2,⟨hk.2,hk.1.1⟩⟩)⟩,⟨by (with_reducible repeat (first | apply Kd.S_alloc | apply Kd.S_drewN | apply Kd.S_drew));exact Kd.S_mono HO264.out (fun _ hk => ⟨hk.1.2,⟨hk.2,hk.1.1⟩⟩)⟩,⟨by (with_reducible repeat (first | apply r1_ | apply r2_ | apply r3_));exact Kd.R_mono HO267.out (fun _ hk => hk.2)⟩,⟨by (with_reducible repeat (first | apply r1_ | apply r2_ | apply r3_));exact Kd.R_mono HO270.out (fun _ hk => hk.2)⟩,⟨by (with_reducible repeat (first | apply k1_ | apply k2_ | apply k3_));exact BK254.out⟩,⟨by (with_reducible repeat (first | apply k1_ | apply k2_ | apply k3_));exact BK272.out⟩,⟨zl_ HB⟩⟩
 case rest =>
  clear HC5
  try clear c1
  try clear c2
  try clear p2
  try clear c3
  try clear c4
  try clear c5
  try clear c6
  try clear c15
  try clear c22
  try clear c23
  try clear c27
  try clear hcz16_0
  try clear hcz16_1
  try clear hcz16_2
  try clear hcz16_3
  try clear hcz16_4
  try clear hcz16_5
  try clear hcz16_6
  try clear hcz16_7
  try clear hcz24_0
  try clear hcz24_1
  try clear hcz24_2
  try clear hcz24_3
  try clear hcz24_4
  try clear hcz24_5
  try clear hcz24_6
  try clear hcz24_7
  try clear hcz25_0
  try clear hcz25_1
  try clear hcz25_2
  try clear hcz25_3
  try clear hcz25_4
  try clear hcz25_5
  try clear hcz25_6
  try clear hcz25_7
  try clear hcz28_0
  try clear hcz28_1
  try clear hcz28_2
  try clear hcz28_3
  try clear hcz28_4
  try clear hcz28_5
  try clear hcz28_6
  try clear hcz28_7
  try clear hcz29_0
  try clear hcz29_1
  try clear hcz29_2
  try clear hcz29_3
  try clear hcz29_4
  try clear hcz29_5
  try clear hcz29_6
  try clear hcz29_7
  try clear hcz8_0
  try clear hcz8_1
  try clear hcz8_2
  try clear hcz8_3
  try clear hcz8_4
  try clear hcz8_5
  try clear hcz8_6
  try clear hcz8_7
  try clear hfz16_0
  try clear hfz16_1
  try clear hfz16_2
  try clear hfz16_3
  try clear hfz16_4
  try clear hfz16_5
  try clear hfz16_6
  try clear hfz16_7
  try clear hfz24_0
  try clear hfz24_1
  try clear hfz24_2
  try clear hfz24_3
  try clear hfz24_4
  try clear hfz24_5
  try clear hfz24_6
  try clear hfz24_7
  try clear hfz25_0
  try clear hfz25_1
  try clear hfz25_2
  try clear hfz25_3
  try clear hfz25_4
  try clear hfz25_5
  try clear hfz25_6
  try clear hfz25_7
  try clear hfz28_0
  try clear hfz28_1
  try clear hfz28_2
  try clear hfz28_3
  try clear hfz28_4
  try clear hfz28_5
  try clear hfz28_6
  try clear hfz28_7
  try clear hfz29_0
  try clear hfz29_1
  try clear hfz29_2
  try clear hfz29_3
  try clear hfz29_4
  try clear hfz29_5
  try clear hfz29_6
  try clear hfz29_7
  try clear hfz8_0
  try clear hfz8_1
  try clear hfz8_2
  try clear hfz8_3
  try clear hfz8_4
  try clear hfz8_5
  try clear hfz8_6
  try clear hfz8_7
  obtain ⟨kq,x33_4,rfl,HA,HJ4,HO_255004,HO_255005,HO_255006,HO_255007,HO_273004,HO_273005,HO_273006,HO_273007,BK254,BK272,HB⟩ := hcut
  cases kq with
  | zero => exact absurd HA.out (by simp [laws_FnExactNewReplica.j0])
  | succ kj4 =>
   have H := HA.out
   clear HA
   simp only [laws_FnExactNewReplica.j0] at H
   by_cases c31 : x33_4 = true
   ·subst c31
    have H1 : (some false) = some r := by rw [if_pos rfl] at H;exact H
    clear H
    have H := H1
    clear H1
    obtain rfl := Option.some.inj H
    go_wp2
    go_ret
    exact ⟨zt_,zl_ HB⟩
   ·replace c31 := Bool.eq_false_iff.mpr c31
    subst c31
    have H1 : ((laws_markReplica.f kj4 t255 t256 t257 t258 t259 t262 t265 t268 1).bind fun bm_ => ((laws_heldReplica.f kj4 t255 t256 t257 t258 bm_.2.1 bm_.2.2 t265 t268 1).bind fun t275 => (if t275 < 0 then (some false) else (if t275 = bm_.1 then ((impl_NewReplica.f a0 a1).bind fun bt276 => ((laws_eqReplica.f kj4 bt276.1 bt276.2.1 bt276.2.2.1 bt276.2.2.2.1 bt276.2.2.2.2.1 bt276.2.2.2.2.2.1 bt276.2.2.2.2.2.2.1 bt276.2.2.2.2.2.2.2.1 t237 t238 t239 t240 t241 t244 t247 t250).bind fun t294 => (if t294 = true then (laws_FnExactNewReplica.j1 kj4 bm_.1 (bt276.2.2.2.2.2.2.2.2 != t253) t255 t256 t257 t258 bm_.2.1 bm_.2.2 t265 t268) else (laws_FnExactNewReplica.j1 kj4 bm_.1 true t255 t256 t257 t258 bm_.2.1 bm_.2.2 t265 t268)))) else (some false))))) = some r := by rw [if_neg (show ¬ (false = true) by decide)] at H;exact H
    clear H
    have H := H1
    clear H1
    replace H := Option.bind_eq_some_iff.mp H
    obtain ⟨⟨t274,m259,m262⟩,A320,H⟩ := H
    try dsimp only at H
    have A32 := am_ A320
    clear A320
    replace H := Option.bind_eq_some_iff.mp H
    obtain ⟨t275,A330,H⟩ := H
    try dsimp only at H
    have A33 := am_ A330
    clear A330
    by_cases c34 : t275 < 0
    ·rw [if_pos c34] at H
     have c34b0 : decide (t275 < 0) = true := decide_eq_true c34
     clear c34
     obtain rfl := Option.some.inj H
     have hnb35 := NB272_254.out
     have hnc35 := NB254_272.out
     obtain ⟨hcz36_0,hcz36_1,hcz36_2,hcz36_3,hcz36_4,hcz36_5,hcz36_6,hcz36_7,hfz36_0,hfz36_1,hfz36_2,hfz36_3,hfz36_4,hfz36_5,hfz36_6,hfz36_7⟩ := zc8 BK272
     go_wp2_with (first | ((with_reducible refine gate_callee (f := 7) rfl ?_);refine zgl (some 36) Try.func7 #[.agg #[.int .i64 t255,.int .i64 t256,.int .i64 t257,.bool t258,.slice Ao17 t259.length co17,.slice Ao18 t262.length co18,.slice Ao19 t265.length co19,.slice Ao20 t268.length co20],.int .i64 1] ?_;(with_reducible refine (laws_markReplica.calls kj4 t255 t256 t257 t258 _ _ _ t259 _ _ _ t262 _ _ t265 _ _ t268 1 t274 m259 m262 ?ok4q ?ok5q w _ ?hBq ?h4q ?h5q A32.out).mono ?_);(case hBq => exact zl_ HB);(case h4q => exact (by (with_reducible repeat (first | apply Kd.S_alloc | apply Kd.S_drewN | apply Kd.S_drew));exact HO_273004.out));(case h5q => exact (by (with_reducible repeat (first | apply Kd.S_alloc | apply Kd.S_drewN | apply Kd.S_drew));exact HO_273005.out));rintro e w37 ⟨rfl,h4_,h5_,hM,hb⟩;refine ⟨_,rfl,?_⟩;have q4_ := Kd.S_mono h4_ (fun j hj => hj.elim id (fun hle => ⟨old_ne (Kd.S_R HO_255004.out) hle,old_ne HO_255007.out hle,old_ne HO_273007.out hle⟩));have q5_ := Kd.S_mono h5_ (fun j hj => hj.elim id (fun hle => ⟨old_ne (Kd.S_R HO_255005.out) hle,old_ne HO_255007.out hle,old_ne HO_273007.out hle⟩));clear h4_ h5_;replace HO_255004 := am_ (hM.S HO_255004.out (.inl fun k hk e => hk.2.1 e.symm) (.inr (by decide)));replace HO_255005 := am_ (hM.S HO_255005.out (.inr (by decide)) (.inl fun k hk e => hk.2.1 e.symm));replace HO_255006 := am_ (hM.R HO_255006.out (.inr (by decide)) (.inr (by decide)));replace HO_255007 := am_ (hM.R HO_255007.out (.inr (by decide)) (.inr (by decide)));replace HO_273006 := am_ (hM.R HO_273006.out (.inr (by decide)) (.inr (by decide)));replace HO_273007 := am_ (hM.R HO_273007.out (.inr (by decide)) (.inr (by decide)));replace HO_273004 := am_ q4_;replace HO_273005 := am_ q5_;replace BK254 := am_ (hM.blk BK254.out (by decide) (by decide));replace BK272 := am_ (hM.blk BK272.out (by decide) (by decide));replace HB := am_ hb;clear hM q4_ q5_;(try clear hb);(try clear hb2);(try clear hk);(try clear hi);obtain ⟨hcz38_0,hcz38_1,hcz38_2,hcz38_3,hcz38_4,hcz38_5,hcz38_6,hcz38_7,hfz38_0,hfz38_1,hfz38_2,hfz38_3,hfz38_4,hfz38_5,hfz38_6,hfz38_7⟩ := zc8 BK272) | ((with_reducible refine gate_callee (f := 8) rfl ?_);refine zgl (some 39) Try.func8 #[.agg #[.int .i64 t255,.int .i64 t256,.int .i64 t257,.bool t258,.slice Ao17 t259.length co17,.slice Ao18 t262.length co18,.slice Ao19 t265.length co19,.slice Ao20 t268.length co20],.int .i64 1] ?_;(with_reducible refine (held_n kj4 t255 t256 t257 t258 _ _ _ m259 _ _ _ m262 _ _ t265 _ _ t268 1 t275 _ ?e4q ?e5q ?side1 ?side2 ?side3 ?side4 ?side5 ?side6 ?side7 ?side8 A33.out).mono ?_);(case e4q => exact (Kd.S_reads' HO_273004.out).1);(case e5q => exact (Kd.S_reads' HO_273005.out).1);(case side1 => repeat (first | exact (Kd.S_reads' HO_273004.out).2.2 | (with_reducible refine Kd.C_alloc ?_ _) | (with_reducible refine Kd.C_drewN ?_ _) | (with_reducible refine Kd.C_drew ?_)));(case side2 => exact (Kd.S_reads' HO_273004.out).2.1);(case side3 => repeat (first | exact (Kd.S_reads' HO_273005.out).2.2 | (with_reducible refine Kd.C_alloc ?_ _) | (with_reducible refine Kd.C_drewN ?_ _) | (with_reducible refine Kd.C_drew ?_)));(case side4 => exact (Kd.S_reads' HO_273005.out).2.1);(case side5 => repeat (first | exact (Kd.R_reads' HO_273006.out).2.2 | (with_reducible refine Kd.C_alloc ?_ _) | (with_reducible refine Kd.C_drewN ?_ _) | (with_reducible refine Kd.C_drew ?_)));(case side6 => exact (Kd.R_reads' HO_273006.out).2.1);(case side7 => repeat (first | exact (Kd.R_reads' HO_273007.out).2.2 | (with_reducible refine Kd.C_alloc ?_ _) | (with_reducible refine Kd.C_drewN ?_ _) | (with_reducible refine Kd.C_drew ?_)));(case side8 => exact (Kd.R_reads' HO_273007.out).2.1);rintro e w39 ⟨rfl,hb⟩;refine ⟨_,rfl,?_⟩;replace HO_255004 := am_ (Kd.S_below (by (with_reducible repeat (first | apply Kd.S_alloc | apply Kd.S_drewN | apply Kd.S_drew));exact HO_255004.out) hb);replace HO_255005 := am_ (Kd.S_below (by (with_reducible repeat (first | apply Kd.S_alloc | apply Kd.S_drewN | apply Kd.S_drew));exact HO_255005.out) hb);replace HO_255006 := zrb HO_255006 hb;replace HO_255007 := zrb HO_255007 hb;replace HO_273004 := am_ (Kd.S_below (by (with_reducible repeat (first | apply Kd.S_alloc | apply Kd.S_drewN | apply Kd.S_drew));exact HO_273004.out) hb);replace HO_273005 := am_ (Kd.S_below (by (with_reducible repeat (first | apply Kd.S_alloc | apply Kd.S_drewN | apply Kd.S_drew));exact HO_273005.out) hb);replace HO_273006 := zrb HO_273006 hb;replace HO_273007 := zrb HO_273007 hb;replace BK254 := zb BK254 hb;replace BK272 := zb BK272 hb;replace HB := zs_ HB hb;(try clear hb);(try clear hb2);(try clear hk);(try clear hi)))
     go_ret
     exact ⟨zt_,zl_ HB⟩
    ·rw [if_neg c34] at H
     have c34b0 : decide (t275 < 0) = false := decide_eq_false c34
     clear c34
     by_cases c40 : t275 = t274
     ·rw [if_pos c40] at H
      have c40b0 : (t275 == t274) = true := beq_iff_eq.mpr c40
      have c40b1 : (t275 != t274) = false := bne_eq_false_iff_eq.mpr c40
      clear c40
      replace H := Option.bind_eq_some_iff.mp H
      obtain ⟨⟨t276,t277,t278,t279,t280,t283,t286,t289,t292⟩,A410,H⟩ := H
      try dsimp only at H
      have A41 := am_ A410
      clear A410
      have HC42 := am_ H
      clear H
      have hnb43 := NB272_254.out
      have hnc43 := NB254_272.out
      obtain ⟨hcz44_0,hcz44_1,hcz44_2,hcz44_3,hcz44_4,hcz44_5,hcz44_6,hcz44_7,hfz44_0,hfz44_1,hfz44_2,hfz44_3,hfz44_4,hfz44_5,hfz44_6,hfz44_7⟩ := zc8 BK272
      go_upto_region 14 with (first | ((with_reducible refine gate_callee (f := 7) rfl ?_);refine zgl (some 36) Try.func7 #[.agg #[.int .i64 t255,.int .i64 t256,.int .i64 t257,.bool t258,.slice Ao17 t259.length co17,.slice Ao18 t262.length co18,.slice Ao19 t265.length co19,.slice Ao20 t268.length co20],.int .i64 1] ?_;(with_reducible refine (laws_markReplica.calls kj4 t255 t256 t257 t258 _ _ _ t259 _ _ _ t262 _ _ t265 _ _ t268 1 t274 m259 m262 ?ok4q ?ok5q w _ ?hBq ?h4q ?h5q A32.out).mono ?_);(case hBq => exact zl_ HB);(case h4q => exact (by (with_reducible repeat (first | apply Kd.S_alloc | apply Kd.S_drewN | apply Kd.S_drew));exact HO_273004.out));(case h5q => exact (by (with_reducible repeat (first | apply Kd.S_alloc | apply Kd.S_drewN | apply Kd.S_drew));exact HO_273005.out));rintro e w45 ⟨rfl,h4_,h5_,hM,hb⟩;refine ⟨_,rfl,?_⟩;have q4_ := Kd.S_mono h4_ (fun j hj => hj.elim id (fun hle => ⟨old_ne (Kd.S_R HO_255004.out) hle,old_ne HO_255007.out hle,old_ne HO_273007.out hle⟩));have q5_ := Kd.S_mono h5_ (fun j hj => hj.elim id (fun hle => ⟨old_ne (Kd.S_R HO_255005.out) hle,old_ne HO_255007.out hle,old_ne HO_273007.out hle⟩));clear h4_ h5_;replace HO_255004 := am_ (hM.S HO_255004.out (.inl fun k hk e => hk.2.1 e.symm) (.inr (by decide)));replace HO_255005 := am_ (hM.S HO_255005.out (.inr (by decide)) (.inl fun k hk e => hk.2.1 e.symm));replace HO_255006 := am_ (hM.R HO_255006.out (.inr (by decide)) (.inr (by decide)));replace HO_255007 := am_ (hM.R HO_255007.out (.inr (by decide)) (.inr (by decide)));replace HO_273006 := am_ (hM.R HO_273006.out (.inr (by decide)) (.inr (by decide)));replace HO_273007 := am_ (hM.R HO_273007.out (.inr (by decide)) (.inr (by decide)));replace HO_273004 := am_ q4_;replace HO_273005 := am_ q5_;replace BK254 := am_ (hM.blk BK254.out (by decide) (by decide));replace BK272 := am_ (hM.blk BK272.out (by decide) (by decide));replace HB := am_ hb;clear hM q4_ q5_;(try clear hb);(try clear hb2);(try clear hk);(try clear hi);obtain ⟨hcz46_0,hcz46_1,hcz46_2,hcz46_3,hcz46_4,hcz46_5,hcz46_6,hcz46_7,hfz46_0,hfz46_1,hfz46_2,hfz46_3,hfz46_4,hfz46_5,hfz46_6,hfz46_7⟩ := zc8 BK272) | ((with_reducible refine gate_callee (f := 8) rfl ?_);refine zgl (some 39) Try.func8 #[.agg #[.int .i64 t255,.int .i64 t256,.int .i64 t257,.bool t258,.slice Ao17 t259.length co17,.slice Ao18 t262.length co18,.slice Ao19 t265.length co19,.slice Ao20 t268.length co20],.int .i64 1] ?_;(with_reducible refine (held_n kj4 t255 t256 t257 t258 _ _ _ m259 _ _ _ m262 _ _ t265 _ _ t268 1 t275 _ ?e4q ?e5q ?side1 ?side2 ?side3 ?side4 ?side5 ?side6 ?side7 ?side8 A33.out).mono ?_);(case e4q => exact (Kd.S_reads' HO_273004.out).1);(case e5q => exact (Kd.S_reads' HO_273005.out).1);(case side1 => repeat (first | exact (Kd.S_reads' HO_273004.out).2.2 | (with_reducible refine Kd.C_alloc ?_ _) | (with_reducible refine Kd.C_drewN ?_ _) | (with_reducible refine Kd.C_drew ?_)));(case side2 => exact (Kd.S_reads' HO_273004.out).2.1);(case side3 => repeat (first | exact (Kd.S_reads' HO_273005.out).2.2 | (with_reducible refine Kd.C_alloc ?_ _) | (with_reducible refine Kd.C_drewN ?_ _) | (with_reducible refine Kd.C_drew ?_)));(case side4 => exact (Kd.S_reads' HO_273005.out).2.1);(case side5 => repeat (first | exact (Kd.R_reads' HO_273006.out).2.2 | (with_reducible refine Kd.C_alloc ?_ _) | (with_reducible refine Kd.C_drewN ?_ _) | (with_reducible refine Kd.C_drew ?_)));(case side6 => exact (Kd.R_reads' HO_273006.out).2.1);(case side7 => repeat (first | exact (Kd.R_reads' HO_273007.out).2.2 | (with_reducible refine Kd.C_alloc ?_ _) | (with_reducible refine Kd.C_drewN ?_ _) | (with_reducible refine Kd.C_drew ?_)));(case side8 => exact (Kd.R_reads' HO_273007.out).2.1);rintro e w47 ⟨rfl,hb⟩;refine ⟨_,rfl,?_⟩;replace HO_255004 := am_ (Kd.S_below (by (with_reducible repeat (first | apply Kd.S_alloc | apply Kd.S_drewN | apply Kd.S_drew));exact HO_255004.out) hb);replace HO_255005 := am_ (Kd.S_below (by (with_reducible repeat (first | apply Kd.S_alloc | apply Kd.S_drewN | apply Kd.S_drew));exact HO_255005.out) hb);replace HO_255006 := zrb HO_255006 hb;replace HO_255007 := zrb HO_255007 hb;replace HO_273004 := am_ (Kd.S_below (by (with_reducible repeat (first | apply Kd.S_alloc | apply Kd.S_drewN | apply Kd.S_drew));exact HO_273004.out) hb);replace HO_273005 := am_ (Kd.S_below (by (with_reducible repeat (first | apply Kd.S_alloc | apply Kd.S_drewN | apply Kd.S_drew));exact HO_273005.out) hb);replace HO_273006 := zrb HO_273006 hb;replace HO_273007 := zrb HO_273007 hb;replace BK254 := zb BK254 hb;replace BK272 := zb BK272 hb;replace HB := zs_ HB hb;(try clear hb);(try clear hb2);(try clear hk);(try clear hi)) | ((with_reducible refine gate_callee (f := 5) rfl ?_);refine zgl (some 48) Try.func5 #[.int .i64 a0,.int .i64 a1] ?_;(with_reducible refine (impl_NewReplica.calls a0 a1 t276 t277 t278 t279 t280 t283 t286 t289 t292 _ A41.out).mono ?_);rintro e w48 ⟨v281,v284,v287,v290,rfl,ho0,ho1,ho2,ho3,hb⟩;refine ⟨_,rfl,?_⟩;have HO282 := am_ (Kd.S_lower (Kd.S_new' (Kd.S_new' (Kd.S_new' (Kd.S_new' ho0 (Kd.S_lt (by (with_reducible repeat (first | apply Kd.S_alloc | apply Kd.S_drewN | apply Kd.S_drew));exact HO_255004.out))) (Kd.R_lt (zr HO_255007))) (Kd.S_lt (by (with_reducible repeat (first | apply Kd.S_alloc | apply Kd.S_drewN | apply Kd.S_drew));exact HO_273004.out))) (Kd.R_lt (zr HO_273007))) (below_size (zl_ HB)));replace HO_255004 := am_ (Kd.S_mono (Kd.S_told (Kd.S_told (Kd.S_old (by (with_reducible repeat (first | apply Kd.S_alloc | apply Kd.S_drewN | apply Kd.S_drew));exact HO_255004.out) hb) (Kd.S_base ho0)) (Kd.R_base ho3)) (fun _ h_ => h_.1));replace HO_273004 := am_ (Kd.S_mono (Kd.S_told (Kd.S_told (Kd.S_old (by (with_reducible repeat (first | apply Kd.S_alloc | apply Kd.S_drewN | apply Kd.S_drew));exact HO_273004.out) hb) (Kd.S_base ho0)) (Kd.R_base ho3)) (fun _ h_ => h_.1));have HO285 := am_ (Kd.S_lower (Kd.S_new' (Kd.S_new' (Kd.S_new' (Kd.S_new' ho1 (Kd.S_lt (by (with_reducible repeat (first | apply Kd.S_alloc | apply Kd.S_drewN | apply Kd.S_drew));exact HO_255005.out))) (Kd.R_lt (zr HO_255007))) (Kd.S_lt (by (with_reducible repeat (first | apply Kd.S_alloc | apply Kd.S_drewN | apply Kd.S_drew));exact HO_273005.out))) (Kd.R_lt (zr HO_273007))) (below_size (zl_ HB)));replace HO_255005 := am_ (Kd.S_mono (Kd.S_told (Kd.S_told (Kd.S_old (by (with_reducible repeat (first | apply Kd.S_alloc | apply Kd.S_drewN | apply Kd.S_drew));exact HO_255005.out) hb) (Kd.S_base ho1)) (Kd.R_base ho3)) (fun _ h_ => h_.1));replace HO_273005 := am_ (Kd.S_mono (Kd.S_told (Kd.S_told (Kd.S_old (by (with_reducible repeat (first | apply Kd.S_alloc | apply Kd.S_drewN | apply Kd.S_drew));exact HO_273005.out) hb) (Kd.S_base ho1)) (Kd.R_base ho3)) (fun _ h_ => h_.1));have HO288 := am_ (Kd.R_lower (Kd.R_new' (Kd.R_new' ho2 (Kd.R_lt (zr HO_255006))) (Kd.R_lt (zr HO_273006))) (below_size (zl_ HB)));replace HO_255006 := am_ (Kd.R_elder' (zr HO_255006) (Kd.R_base ho2) hb);replace HO_273006 := am_ (Kd.R_elder' (zr HO_273006) (Kd.R_base ho2) hb);have HO291 := am_ (Kd.R_lower (Kd.R_new' (Kd.R_new' ho3 (Kd.R_lt (zr HO_255007))) (Kd.R_lt (zr HO_273007))) (below_size (zl_ HB)));replace HO_255007 := am_ (Kd.R_elder' (zr HO_255007) (Kd.R_base ho3) hb);replace HO_273007 := am_ (Kd.R_elder' (zr HO_273007) (Kd.R_base ho3) hb);replace BK254 := zb BK254 hb;replace BK272 := zb BK272 hb;replace HB := zs_ HB hb;(try clear hb);(try clear hb2);(try clear hk);(try clear hi);(try clear ho0);(try clear ho1);(try clear ho2);(try clear ho3)) | ((with_reducible refine gate_dst (N := 11) rfl ?_);refine zbx (N := 11) (cs := #[.int .i64 0,.int .i64 0,.int .i64 0,.bool false,.slice none 0 0,.slice none 0 0,.slice none 0 0,.slice none 0 0]) (t := 27) ?_;intro gb293 hg w49 hbox hb;replace HO_255004 := am_ (Kd.S_below (by (with_reducible repeat (first | apply Kd.S_alloc | apply Kd.S_drewN | apply Kd.S_drew));exact HO_255004.out) hb);replace HO_255005 := am_ (Kd.S_below (by (with_reducible repeat (first | apply Kd.S_alloc | apply Kd.S_drewN | apply Kd.S_drew));exact HO_255005.out) hb);replace HO_255006 := zrb HO_255006 hb;replace HO_255007 := zrb HO_255007 hb;replace HO_273004 := am_ (Kd.S_below (by (with_reducible repeat (first | apply Kd.S_alloc | apply Kd.S_drewN | apply Kd.S_drew));exact HO_273004.out) hb);replace HO_273005 := am_ (Kd.S_below (by (with_reducible repeat (first | apply Kd.S_alloc | apply Kd.S_drewN | apply Kd.S_drew));exact HO_273005.out) hb);replace HO_273006 := zrb HO_273006 hb;replace HO_273007 := zrb HO_273007 hb;replace HO282 := am_ (Kd.S_below (by (with_reducible repeat (first | apply Kd.S_alloc | apply Kd.S_drewN | apply Kd.S_drew));exact HO282.out) hb);replace HO285 := am_ (Kd.S_below (by (with_reducible repeat (first | apply Kd.S_alloc | apply Kd.S_drewN | apply Kd.S_drew));exact HO285.out) hb);replace HO288 := zrb HO288 hb;replace HO291 := zrb HO291 hb;have BK293 := am_ (hbox);have GW293 := zw_ HB hg;have GE293 := zw_ HB hg;replace HB := zs_ HB hb;have NB254_293 := zl hg BK254;have NB293_254 := zg hg BK254;replace BK254 := zb BK254 hb;have NB272_293 := zl hg BK272;have NB293_272 := zg hg BK272;replace BK272 := zb BK272 hb;clear hb hbox hg;have hnb50 := NB293_254.out;have hnc50 := NB254_293.out;have hnb51 := NB293_272.out;have hnc51 := NB272_293.out;obtain ⟨hcz52_0,hcz52_1,hcz52_2,hcz52_3,hcz52_4,hcz52_5,hcz52_6,hcz52_7,hfz52_0,hfz52_1,hfz52_2,hfz52_3,hfz52_4,hfz52_5,hfz52_6,hfz52_7⟩ := zc8 BK293;obtain ⟨Ao53,co53,eo53⟩ := Kd.S_slice HO282.out;subst eo53;obtain ⟨Ao54,co54,eo54⟩ := Kd.S_slice HO285.out;subst eo54;obtain ⟨Ao55,co55,eo55⟩ := Kd.R_slice HO288.out;subst eo55;obtain ⟨Ao56,co56,eo56⟩ := Kd.R_slice HO291.out;subst eo56))
      (try simp only [Act.put,p1_,p2_,p3_])
      go_cut [59] (fun v59 wc => ∃ (kq : Nat) (x59_41 : Bool),v59 = .bool x59_41 ∧ Aside0 (laws_FnExactNewReplica.j1 kq t274 x59_41 t255 t256 t257 t258 m259 m262 t265 t268 = some r) ∧ Aside0 (kq ≤ kj4) ∧ Aside0 (Kd.S k51 51 wc w.heap.size (fun k_ => some k_ ≠ ((.slice Ao12 t250.length co12) : Value).ownBlock ∧ some k_ ≠ ((.slice Ao17 t259.length co17) : Value).ownBlock ∧ some k_ ≠ ((.slice Ao20 t268.length co20) : Value).ownBlock ∧ some k_ ≠ ((.slice Ao53 t280.length co53) : Value).ownBlock ∧ some k_ ≠ ((.slice Ao56 t289.length co56) : Value).ownBlock) (.slice Ao9 t241.length co9) t241) ∧ Aside0 (Kd.S k46 46 wc w.heap.size (fun k_ => some k_ ≠ ((.slice Ao12 t250.length co12) : Value).ownBlock ∧ some k_ ≠ ((.slice Ao18 t262.length co18) : Value).ownBlock ∧ some k_ ≠ ((.slice Ao20 t268.length co20) : Value).ownBlock ∧ some k_ ≠ ((.slice Ao54 t283.length co54) : Value).ownBlock ∧ some k_ ≠ ((.slice Ao56 t289.length co56) : Value).ownBlock) (.slice Ao10 t244.length co10) t244) ∧ Aside0 (Kd.R Kd.string 9 wc w.heap.size (fun k_ => some k_ ≠ ((.slice Ao19 t265.length co19) : Value).ownBlock ∧ some k_ ≠ ((.slice Ao55 t286.length co55) : Value).ownBlock) (.slice Ao11 t247.length co11) t247) ∧ Aside0 (Kd.R k55 55 wc w.heap.size (fun k_ => some k_ ≠ ((.slice Ao20 t268.length co20) : Value).ownBlock ∧ some k_ ≠ ((.slice Ao56 t289.length co56) : Value).ownBlock) (.slice Ao12 t250.length co12) t250) ∧ Aside0 (Kd.S k51 51 wc w.heap.size (fun k_ => some k_ ≠ ((.slice Ao9 t241.length co9) : Value).ownBlock ∧ some k_ ≠ ((.slice Ao12 t250.length co12) : Value).ownBlock ∧ some k_ ≠ ((.slice Ao20 t268.length co20) : Value).ownBlock ∧ some k_ ≠ ((.slice Ao53 t280.length co53) : Value).ownBlock ∧ some k_ ≠ ((.slice Ao56 t289.length co56) : Value).ownBlock) (.slice Ao17 t259.length co17) m259) ∧ Aside0 (Kd.S k46 46 wc w.heap.size (fun k_ => some k_ ≠ ((.slice Ao10 t244.length co10) : Value).ownBlock ∧ some k_ ≠ ((.slice Ao12 t250.length co12) : Value).ownBlock ∧ some k_ ≠ ((.slice Ao20 t268.length co20) : Value).ownBlock ∧ some k_ ≠ ((.slice Ao54 t283.length co54) : Value).ownBlock ∧ some k_ ≠ ((.slice Ao56 t289.length co56) : Value).ownBlock) (.slice Ao18 t262.length co18) m262) ∧ Aside0 (Kd.R Kd.string 9 wc w.heap.size (fun k_ => some k_ ≠ ((.slice Ao11 t247.length co11) : Value).ownBlock ∧ some k_ ≠ ((.slice Ao55 t286.length co55) : Value).ownBlock) (.slice Ao19 t265.length co19) t265) ∧ Aside0 (Kd.R k55 55 wc w.heap.size (fun k_ => some k_ ≠ ((.slice Ao12 t250.length co12) : Value).ownBlock ∧ some k_ ≠ ((.slice Ao56 t289.length co56) : Value).ownBlock) (.slice Ao20 t268.length co20) t268) ∧ Aside0 (Kd.S k51 51 wc w.heap.size (fun k_ => some k_ ≠ ((.slice Ao9 t241.length co9) : Value).ownBlock ∧ some k_ ≠ ((.slice Ao12 t250.length co12) : Value).ownBlock ∧ some k_ ≠ ((.slice Ao17 t259.length co17) : Value).ownBlock ∧ some k_ ≠ ((.slice Ao20 t268.length co20) : Value).ownBlock ∧ some k_ ≠ ((.slice Ao56 t289.length co56) : Value).ownBlock) (.slice Ao53 t280.length co53) t280) ∧ Aside0 (Kd.S k46 46 wc w.heap.size (fun k_ => some k_ ≠ ((.slice Ao10 t244.length co10) : Value).ownBlock ∧ some k_ ≠ ((.slice Ao12 t250.length co12) : Value).ownBlock ∧ some k_ ≠ ((.slice Ao18 t262.length co18) : Value).ownBlock ∧ some k_ ≠ ((.slice Ao20 t268.length co20) : Value).ownBlock ∧ some k_ ≠ ((.slice Ao56 t289.length co56) : Value).ownBlock) (.slice Ao54 t283.length co54) t283) ∧ Aside0 (Kd.R Kd.string 9 wc w.heap.size (fun k_ => some k_ ≠ ((.slice Ao11 t247.length co11) : Value).ownBlock ∧ some k_ ≠ ((.slice Ao19 t265.length co19) : Value).ownBlock) (.slice Ao55 t286.length co55) t286) ∧ Aside0 (Kd.R k55 55 wc w.heap.size (fun k_ => some k_ ≠ ((.slice Ao12 t250.length co12) : Value).ownBlock ∧ some k_ ≠ ((.slice Ao20 t268.length co20) : Value).ownBlock) (.slice Ao56 t289.length co56) t289) ∧ Aside0 (wc.heap[gb254]? = some (.cells #[.int .i64 t237,.int .i64 t238,.int .i64 t239,.bool t240,(.slice Ao9 t241.length co9),(.slice Ao10 t244.length co10),(.slice Ao11 t247.length co11),(.slice Ao12 t250.length co12)] 27 (0,0))) ∧ Aside0 (wc.heap[gb272]? = some (.cells #[.int .i64 t255,.int .i64 t256,.int .i64 t257,.bool t258,(.slice Ao17 t259.length co17),(.slice Ao18 t262.length co18),(.slice Ao19 t265.length co19),(.slice Ao20 t268.length co20)] 27 (0,0))) ∧ Aside0 (wc.heap[gb293]? = some (.cells #[.int .i64 t276,.int .i64 t277,.int .i64 t278,.bool t279,(.slice Ao53 t280.length co53),(.slice Ao54 t283.length co54),(.slice Ao55 t286.length co55),(.slice Ao56 t289.length co56)] 27 (0,0))) ∧ Aside0 (Below w.heap.size w wc))
      case first =>
       have H := HC42.out
       clear HC42
       replace H := Option.bind_eq_some_iff.mp H
       obtain ⟨t294,A570,H⟩ := H
       try dsimp only at H
       have A57 := am_ A570
       clear A570
       by_cases c58 : t294 = true
       ·subst c58
        have H1 : (laws_FnExactNewReplica.j1 kj4 t274 (t292 != t253) t255 t256 t257 t258 m259 m262 t265 t268) = some r := by rw [if_pos rfl] at H;exact H
        clear H
        have H := H1
        clear H1
        have H' := am_ H
        clear H
        have hnb59 := NB293_254.out
        have hnc59 := NB254_293.out
        have hnb60 := NB293_272.out
        have hnc60 := NB272_293.out
        obtain ⟨hcz61_0,hcz61_1,hcz61_2,hcz61_3,hcz61_4,hcz61_5,hcz61_6,hcz61_7,hfz61_0,hfz61_1,hfz61_2,hfz61_3,hfz61_4,hfz61_5,hfz61_6,hfz61_7⟩ := zc8 BK293
        have hnb62 := NB254_272.out
        have hnc62 := NB272_254.out
        obtain ⟨hcz63_0,hcz63_1,hcz63_2,hcz63_3,hcz63_4,hcz63_5,hcz63_6,hcz63_7,hfz63_0,hfz63_1,hfz63_2,hfz63_3,hfz63_4,hfz63_5,hfz63_6,hfz63_7⟩ := zc8 BK254
        go_wp2_with (first | ((with_reducible refine gate_callee (f := 6) rfl ?_);refine zgl (some 53) Try.func6 #[.agg #[.int .i64 t276,.int .i64 t277,.int .i64 t278,.bool t279,.slice Ao53 t280.length co53,.slice Ao54 t283.length co54,.slice Ao55 t286.length co55,.slice Ao56 t289.length co56],.agg #[.int .i64 t237,.int .i64 t238,.int .i64 t239,.bool t240,.slice Ao9 t241.length co9,.slice Ao10 t244.length co10,.slice Ao11 t247.length co11,.slice Ao12 t250.length co12]] ?_;(with_reducible refine (laws_eqReplica.calls kj4 t276 t277 t278 t279 _ _ t280 _ _ t283 _ _ t286 _ _ t289 t237 t238 t239 t240 _ _ t241 _ _ t244 _ _ t247 _ _ t250 true _ ?side1 ?side2 ?side3 ?side4 ?side5 ?side6 ?side7 ?side8 ?side9 ?side10 ?side11 ?side12 ?side13 ?side14 ?side15 ?side16 A57.out).mono ?_);(case side1 => refine (Kd.S_reads' (e := 51) (base := w.heap.size) (ok := fun k_ => ((((some k_ ≠ (.slice Ao56 t289.length co56 : Value).ownBlock ∧ some k_ ≠ (.slice Ao9 t241.length co9 : Value).ownBlock) ∧ some k_ ≠ (.slice Ao12 t250.length co12 : Value).ownBlock) ∧ some k_ ≠ (.slice Ao17 t259.length co17 : Value).ownBlock) ∧ some k_ ≠ (.slice Ao20 t268.length co20 : Value).ownBlock)) (n := t280.length) (c := co53) ?_).2.2;exact (by (with_reducible repeat (first | apply Kd.S_alloc | apply Kd.S_drewN | apply Kd.S_drew));exact (Kd.S_mono (Kd.S_far (p := ⟨gb293,7,none⟩) (Kd.S_far (p := ⟨gb293,6,none⟩) (Kd.S_far (p := ⟨gb293,5,none⟩) (Kd.S_far (p := ⟨gb293,4,none⟩) (Kd.S_far (p := ⟨gb293,3,none⟩) (Kd.S_far (p := ⟨gb293,2,none⟩) (Kd.S_far (p := ⟨gb293,1,none⟩) (Kd.S_far (p := ⟨gb293,0,none⟩) (Kd.S_types HO282.out BK293.out (by decide)) (fun _ hk => hk.2) (.int .i64 t276)) (fun _ hk => hk.2) (.int .i64 t277)) (fun _ hk => hk.2) (.int .i64 t278)) (fun _ hk => hk.2) (.bool t279)) (fun _ hk => hk.2) (.slice Ao53 t280.length co53)) (fun _ hk => hk.2) (.slice Ao54 t283.length co54)) (fun _ hk => hk.2) (.slice Ao55 t286.length co55)) (fun _ hk => hk.2) (.slice Ao56 t289.length co56)) (fun _ h_ => h_.1))));(case side2 => exact (Kd.S_reads' HO282.out).2.1);(case side3 => refine (Kd.S_reads' (e := 46) (base := w.heap.size) (ok := fun k_ => ((((some k_ ≠ (.slice Ao56 t289.length co56 : Value).ownBlock ∧ some k_ ≠ (.slice Ao10 t244.length co10 : Value).ownBlock) ∧ some k_ ≠ (.slice Ao12 t250.length co12 : Value).ownBlock) ∧ some k_ ≠ (.slice Ao18 t262.length co18 : Value).ownBlock) ∧ some k_ ≠ (.slice Ao20 t268.length co20 : Value).ownBlock)) (n := t283.length) (c := co54) ?_).2.2;exact (by (with_reducible repeat (first | apply Kd.S_alloc | apply Kd.S_drewN | apply Kd.S_drew));exact (Kd.S_mono (Kd.S_far (p := ⟨gb293,7,none⟩) (Kd.S_far (p := ⟨gb293,6,none⟩) (Kd.S_far (p := ⟨gb293,5,none⟩) (Kd.S_far (p := ⟨gb293,4,none⟩) (Kd.S_far (p := ⟨gb293,3,none⟩) (Kd.S_far (p := ⟨gb293,2,none⟩) (Kd.S_far (p := ⟨gb293,1,none⟩) (Kd.S_far (p := ⟨gb293,0,none⟩) (Kd.S_types HO285.out BK293.out (by decide)) (fun _ hk => hk.2) (.int .i64 t276)) (fun _ hk => hk.2) (.int .i64 t277)) (fun _ hk => hk.2) (.int .i64 t278)) (fun _ hk => hk.2) (.bool t279)) (fun _ hk => hk.2) (.slice Ao53 t280.length co53)) (fun _ hk => hk.2) (.slice Ao54 t283.length co54)) (fun _ hk => hk.2) (.slice Ao55 t286.length co55)) (fun _ hk => hk.2) (.slice Ao56 t289.length co56)) (fun _ h_ => h_.1))));(case side4 => exact (Kd.S_reads' HO285.out).2.1);(case side5 => refine (Kd.R_reads' (e := 9) (base := w.heap.size) (ok := fun k_ => ((True ∧ some k_ ≠ (.slice Ao11 t247.length co11 : Value).ownBlock) ∧ some k_ ≠ (.slice Ao19 t265.length co19 : Value).ownBlock)) (n := t286.length) (c := co55) ?_).2.2;exact (by (with_reducible repeat (first | apply r1_ | apply r2_ | apply r3_));exact (Kd.R_mono (zrf (Kd.R_types HO288.out BK293.out (by decide))) (fun _ h_ => h_.1))));(case side6 => exact (Kd.R_reads' HO288.out).2.1);(case side7 => refine (Kd.R_reads' (e := 55) (base := w.heap.size) (ok := fun k_ => ((True ∧ some k_ ≠ (.slice Ao12 t250.length co12 : Value).ownBlock) ∧ some k_ ≠ (.slice Ao20 t268.length co20 : Value).ownBlock)) (n := t289.length) (c := co56) ?_).2.2;exact (by (with_reducible repeat (first | apply r1_ | apply r2_ | apply r3_));exact (Kd.R_mono (zrf (Kd.R_types HO291.out BK293.out (by decide))) (fun _ h_ => h_.1))));(case side8 => exact (Kd.R_reads' HO291.out).2.1);(case side9 => refine (Kd.S_reads' (e := 51) (base := w.heap.size) (ok := fun k_ => (((some k_ ≠ (.slice Ao12 t250.length co12 : Value).ownBlock ∧ (some k_ ≠ (.slice Ao17 t259.length co17 : Value).ownBlock ∧ some k_ ≠ (.slice Ao20 t268.length co20 : Value).ownBlock)) ∧ some k_ ≠ (.slice Ao53 t280.length co53 : Value).ownBlock) ∧ some k_ ≠ (.slice Ao56 t289.length co56 : Value).ownBlock)) (n := t241.length) (c := co9) ?_).2.2;exact (by (with_reducible repeat (first | apply Kd.S_alloc | apply Kd.S_drewN | apply Kd.S_drew));exact (Kd.S_mono (Kd.S_far (p := ⟨gb293,7,none⟩) (Kd.S_far (p := ⟨gb293,6,none⟩) (Kd.S_far (p := ⟨gb293,5,none⟩) (Kd.S_far (p := ⟨gb293,4,none⟩) (Kd.S_far (p := ⟨gb293,3,none⟩) (Kd.S_far (p := ⟨gb293,2,none⟩) (Kd.S_far (p := ⟨gb293,1,none⟩) (Kd.S_far (p := ⟨gb293,0,none⟩) (Kd.S_types HO_255004.out BK293.out (by decide)) (fun _ hk => hk.2) (.int .i64 t276)) (fun _ hk => hk.2) (.int .i64 t277)) (fun _ hk => hk.2) (.int .i64 t278)) (fun _ hk => hk.2) (.bool t279)) (fun _ hk => hk.2) (.slice Ao53 t280.length co53)) (fun _ hk => hk.2) (.slice Ao54 t283.length co54)) (fun _ hk => hk.2) (.slice Ao55 t286.length co55)) (fun _ hk => hk.2) (.slice Ao56 t289.length co56)) (fun _ h_ => h_.1))));(case side10 => exact (Kd.S_reads' HO_255004.out).2.1);(case side11 => refine (Kd.S_reads' (e := 46) (base := w.heap.size) (ok := fun k_ => (((some k_ ≠ (.slice Ao12 t250.length co12 : Value).ownBlock ∧ (some k_ ≠ (.slice Ao18 t262.length co18 : Value).ownBlock ∧ some k_ ≠ (.slice Ao20 t268.length co20 : Value).ownBlock)) ∧ some k_ ≠ (.slice Ao54 t283.length co54 : Value).ownBlock) ∧ some k_ ≠ (.slice Ao56 t289.length co56 : Value).ownBlock)) (n := t244.length) (c := co10) ?_).2.2;exact (by (with_reducible repeat (first | apply Kd.S_alloc | apply Kd.S_drewN | apply Kd.S_drew));exact (Kd.S_mono (Kd.S_far (p := ⟨gb293,7,none⟩) (Kd.S_far (p := ⟨gb293,6,none⟩) (Kd.S_far (p := ⟨gb293,5,none⟩) (Kd.S_far (p := ⟨gb293,4,none⟩) (Kd.S_far (p := ⟨gb293,3,none⟩) (Kd.S_far (p := ⟨gb293,2,none⟩) (Kd.S_far (p := ⟨gb293,1,none⟩) (Kd.S_far (p := ⟨gb293,0,none⟩) (Kd.S_types HO_255005.out BK293.out (by decide)) (fun _ hk => hk.2) (.int .i64 t276)) (fun _ hk => hk.2) (.int .i64 t277)) (fun _ hk => hk.2) (.int .i64 t278)) (fun _ hk => hk.2) (.bool t279)) (fun _ hk => hk.2) (.slice Ao53 t280.length co53)) (fun _ hk => hk.2) (.slice Ao54 t283.length co54)) (fun _ hk => hk.2) (.slice Ao55 t286.length co55)) (fun _ hk => hk.2) (.slice Ao56 t289.length co56)) (fun _ h_ => h_.1))));(case side12 => exact (Kd.S_reads' HO_255005.out).2.1);(case side13 => refine (Kd.R_reads' (e := 9) (base := w.heap.size) (ok := fun k_ => (some k_ ≠ (.slice Ao19 t265.length co19 : Value).ownBlock ∧ some k_ ≠ (.slice Ao55 t286.length co55 : Value).ownBlock)) (n := t247.length) (c := co11) ?_).2.2;exact (by (with_reducible repeat (first | apply r1_ | apply r2_ | apply r3_));exact (Kd.R_mono (zrf (Kd.R_types HO_255006.out BK293.out (by decide))) (fun _ h_ => h_.1))));(case side14 => exact (Kd.R_reads' HO_255006.out).2.1);(case side15 => refine (Kd.R_reads' (e := 55) (base := w.heap.size) (ok := fun k_ => (some k_ ≠ (.slice Ao20 t268.length co20 : Value).ownBlock ∧ some k_ ≠ (.slice Ao56 t289.length co56 : Value).ownBlock)) (n := t250.length) (c := co12) ?_).2.2;exact (by (with_reducible repeat (first | apply r1_ | apply r2_ | apply r3_));exact (Kd.R_mono (zrf (Kd.R_types HO_255007.out BK293.out (by decide))) (fun _ h_ => h_.1))));(case side16 => exact (Kd.R_reads' HO_255007.out).2.1);rintro e w64 ⟨rfl,hb⟩;refine ⟨_,rfl,?_⟩;replace HO_255004 := am_ (Kd.S_below (by (with_reducible repeat (first | apply Kd.S_alloc | apply Kd.S_drewN | apply Kd.S_drew));exact (Kd.S_mono (Kd.S_far (p := ⟨gb293,7,none⟩) (Kd.S_far (p := ⟨gb293,6,none⟩) (Kd.S_far (p := ⟨gb293,5,none⟩) (Kd.S_far (p := ⟨gb293,4,none⟩) (Kd.S_far (p := ⟨gb293,3,none⟩) (Kd.S_far (p := ⟨gb293,2,none⟩) (Kd.S_far (p := ⟨gb293,1,none⟩) (Kd.S_far (p := ⟨gb293,0,none⟩) (Kd.S_types HO_255004.out BK293.out (by decide)) (fun _ hk => hk.2) (.int .i64 t276)) (fun _ hk => hk.2) (.int .i64 t277)) (fun _ hk => hk.2) (.int .i64 t278)) (fun _ hk => hk.2) (.bool t279)) (fun _ hk => hk.2) (.slice Ao53 t280.length co53)) (fun _ hk => hk.2) (.slice Ao54 t283.length co54)) (fun _ hk => hk.2) (.slice Ao55 t286.length co55)) (fun _ hk => hk.2) (.slice Ao56 t289.length co56)) (fun _ h_ => h_.1))) hb);replace HO_255005 := am_ (Kd.S_below (by (with_reducible repeat (first | apply Kd.S_alloc | apply Kd.S_drewN | apply Kd.S_drew));exact (Kd.S_mono (Kd.S_far (p := ⟨gb293,7,none⟩) (Kd.S_far (p := ⟨gb293,6,none⟩) (Kd.S_far (p := ⟨gb293,5,none⟩) (Kd.S_far (p := ⟨gb293,4,none⟩) (Kd.S_far (p := ⟨gb293,3,none⟩) (Kd.S_far (p := ⟨gb293,2,none⟩) (Kd.S_far (p := ⟨gb293,1,none⟩) (Kd.S_far (p := ⟨gb293,0,none⟩) (Kd.S_types HO_255005.out BK293.out (by decide)) (fun _ hk => hk.2) (.int .i64 t276)) (fun _ hk => hk.2) (.int .i64 t277)) (fun _ hk => hk.2) (.int .i64 t278)) (fun _ hk => hk.2) (.bool t279)) (fun _ hk => hk.2) (.slice Ao53 t280.length co53)) (fun _ hk => hk.2) (.slice Ao54 t283.length co54)) (fun _ hk => hk.2) (.slice Ao55 t286.length co55)) (fun _ hk => hk.2) (.slice Ao56 t289.length co56)) (fun _ h_ => h_.1))) hb);replace HO_255006 := am_ (Kd.R_below (by (with_reducible repeat (first | apply r1_ | apply r2_ | apply r3_));exact (Kd.R_mono (zrf (Kd.R_types HO_255006.out BK293.out (by decide))) (fun _ h_ => h_.1))) hb);replace HO_255007 := am_ (Kd.R_below (by (with_reducible repeat (first | apply r1_ | apply r2_ | apply r3_));exact (Kd.R_mono (zrf (Kd.R_types HO_255007.out BK293.out (by decide))) (fun _ h_ => h_.1))) hb);replace HO_273004 := am_ (Kd.S_below (by (with_reducible repeat (first | apply Kd.S_alloc | apply Kd.S_drewN | apply Kd.S_drew));exact (Kd.S_mono (Kd.S_far (p := ⟨gb293,7,none⟩) (Kd.S_far (p := ⟨gb293,6,none⟩) (Kd.S_far (p := ⟨gb293,5,none⟩) (Kd.S_far (p := ⟨gb293,4,none⟩) (Kd.S_far (p := ⟨gb293,3,none⟩) (Kd.S_far (p := ⟨gb293,2,none⟩) (Kd.S_far (p := ⟨gb293,1,none⟩) (Kd.S_far (p := ⟨gb293,0,none⟩) (Kd.S_types HO_273004.out BK293.out (by decide)) (fun _ hk => hk.2) (.int .i64 t276)) (fun _ hk => hk.2) (.int .i64 t277)) (fun _ hk => hk.2) (.int .i64 t278)) (fun _ hk => hk.2) (.bool t279)) (fun _ hk => hk.2) (.slice Ao53 t280.length co53)) (fun _ hk => hk.2) (.slice Ao54 t283.length co54)) (fun _ hk => hk.2) (.slice Ao55 t286.length co55)) (fun _ hk => hk.2) (.slice Ao56 t289.length co56)) (fun _ h_ => h_.1))) hb);replace HO_273005 := am_ (Kd.S_below (by (with_reducible repeat (first | apply Kd.S_alloc | apply Kd.S_drewN | apply Kd.S_drew));exact (Kd.S_mono (Kd.S_far (p := ⟨gb293,7,none⟩) (Kd.S_far (p := ⟨gb293,6,none⟩) (Kd.S_far (p := ⟨gb293,5,none⟩) (Kd.S_far (p := ⟨gb293,4,none⟩) (Kd.S_far (p := ⟨gb293,3,none⟩) (Kd.S_far (p := ⟨gb293,2,none⟩) (Kd.S_far (p := ⟨gb293,1,none⟩) (Kd.S_far (p := ⟨gb293,0,none⟩) (Kd.S_types HO_273005.out BK293.out (by decide)) (fun _ hk => hk.2) (.int .i64 t276)) (fun _ hk => hk.2) (.int .i64 t277)) (fun _ hk => hk.2) (.int .i64 t278)) (fun _ hk => hk.2) (.bool t279)) (fun _ hk => hk.2) (.slice Ao53 t280.length co53)) (fun _ hk => hk.2) (.slice Ao54 t283.length co54)) (fun _ hk => hk.2) (.slice Ao55 t286.length co55)) (fun _ hk => hk.2) (.slice Ao56 t289.length co56)) (fun _ h_ => h_.1))) hb);replace HO_273006 := am_ (Kd.R_below (by (with_reducible repeat (first | apply r1_ | apply r2_ | apply r3_));exact (Kd.R_mono (zrf (Kd.R_types HO_273006.out BK293.out (by decide))) (fun _ h_ => h_.1))) hb);replace HO_273007 := am_ (Kd.R_below (by (with_reducible repeat (first | apply r1_ | apply r2_ | apply r3_));exact (Kd.R_mono (zrf (Kd.R_types HO_273007.out BK293.out (by decide))) (fun _ h_ => h_.1))) hb);replace HO282 := am_ (Kd.S_below (by (with_reducible repeat (first | apply Kd.S_alloc | apply Kd.S_drewN | apply Kd.S_drew));exact (Kd.S_mono (Kd.S_far (p := ⟨gb293,7,none⟩) (Kd.S_far (p := ⟨gb293,6,none⟩) (Kd.S_far (p := ⟨gb293,5,none⟩) (Kd.S_far (p := ⟨gb293,4,none⟩) (Kd.S_far (p := ⟨gb293,3,none⟩) (Kd.S_far (p := ⟨gb293,2,none⟩) (Kd.S_far (p := ⟨gb293,1,none⟩) (Kd.S_far (p := ⟨gb293,0,none⟩) (Kd.S_types HO282.out BK293.out (by decide)) (fun _ hk => hk.2) (.int .i64 t276)) (fun _ hk => hk.2) (.int .i64 t277)) (fun _ hk => hk.2) (.int .i64 t278)) (fun _ hk => hk.2) (.bool t279)) (fun _ hk => hk.2) (.slice Ao53 t280.length co53)) (fun _ hk => hk.2) (.slice Ao54 t283.length co54)) (fun _ hk => hk.2) (.slice Ao55 t286.length co55)) (fun _ hk => hk.2) (.slice Ao56 t289.length co56)) (fun _ h_ => h_.1))) hb);replace HO285 := am_ (Kd.S_below (by (with_reducible repeat (first | apply Kd.S_alloc | apply Kd.S_drewN | apply Kd.S_drew));exact (Kd.S_mono (Kd.S_far (p := ⟨gb293,7,none⟩) (Kd.S_far (p := ⟨gb293,6,none⟩) (Kd.S_far (p := ⟨gb293,5,none⟩) (Kd.S_far (p := ⟨gb293,4,none⟩) (Kd.S_far (p := ⟨gb293,3,none⟩) (Kd.S_far (p := ⟨gb293,2,none⟩) (Kd.S_far (p := ⟨gb293,1,none⟩) (Kd.S_far (p := ⟨gb293,0,none⟩) (Kd.S_types HO285.out BK293.out (by decide)) (fun _ hk => hk.2) (.int .i64 t276)) (fun _ hk => hk.2) (.int .i64 t277)) (fun _ hk => hk.2) (.int .i64 t278)) (fun _ hk => hk.2) (.bool t279)) (fun _ hk => hk.2) (.slice Ao53 t280.length co53)) (fun _ hk => hk.2) (.slice Ao54 t283.length co54)) (fun _ hk => hk.2) (.slice Ao55 t286.length co55)) (fun _ hk => hk.2) (.slice Ao56 t289.length co56)) (fun _ h_ => h_.1))) hb);replace HO288 := am_ (Kd.R_below (by (with_reducible repeat (first | apply r1_ | apply r2_ | apply r3_));exact (Kd.R_mono (zrf (Kd.R_types HO288.out BK293.out (by decide))) (fun _ h_ => h_.1))) hb);replace HO291 := am_ (Kd.R_below (by (with_reducible repeat (first | apply r1_ | apply r2_ | apply r3_));exact (Kd.R_mono (zrf (Kd.R_types HO291.out BK293.out (by decide))) (fun _ h_ => h_.1))) hb);replace BK254 := am_ (blk_below (g := gb254) (o := .cells #[.int .i64 t237,.int .i64 t238,.int .i64 t239,.bool t240,.slice Ao9 t241.length co9,.slice Ao10 t244.length co10,.slice Ao11 t247.length co11,.slice Ao12 t250.length co12] 27 (0,0)) (zq BK254) hb);replace BK272 := am_ (blk_below (g := gb272) (o := .cells #[.int .i64 t255,.int .i64 t256,.int .i64 t257,.bool t258,.slice Ao17 t259.length co17,.slice Ao18 t262.length co18,.slice Ao19 t265.length co19,.slice Ao20 t268.length co20] 27 (0,0)) (zq BK272) hb);replace BK293 := am_ (blk_below (g := gb293) (o := .cells #[.int .i64 t276,.int .i64 t277,.int .i64 t278,.bool t279,.slice Ao53 t280.length co53,.slice Ao54 t283.length co54,.slice Ao55 t286.length co55,.slice Ao56 t289.length co56] 27 (0,0)) (zq BK293) hb);replace HB := zs_ HB hb;(try clear hb);(try clear hb2);(try clear hk);(try clear hi)))
        go_meet
        case rel => exact ⟨_,((t292 != t253)),(by first | rfl | (simp;done) | (simp [*];done)),H',⟨by have := HJ4.out;first | omega | exact Nat.le_refl _⟩,⟨by (with_reducible repeat (first | apply Kd.S_alloc | apply Kd.S_drewN | apply Kd.S_drew));exact Kd.S_mono HO_255004.out (fun _ hk => ⟨hk.1.1.1,⟨hk.1.1.2.1,⟨hk.1.1.2.2,⟨hk.1.2,hk.2⟩⟩⟩⟩)⟩,⟨by (with_reducible repeat (first | apply Kd.S_alloc | apply Kd.S_drewN | apply Kd.S_drew));exact Kd.S_mono HO_255005.out (fun _ hk => ⟨hk.1.1.1,⟨hk.1.1.2.1,⟨hk.1.1.2.2,⟨hk.1.2,hk.2⟩⟩⟩⟩)⟩,⟨zr HO_255006⟩,⟨zr HO_255007⟩,⟨by (with_reducible repeat (first | apply Kd.S_alloc | apply Kd.S_drewN | apply Kd.S_drew));exact Kd.S_mono HO_273004.out (fun _ hk => ⟨hk.1.1.1,⟨hk.1.1.2.1,⟨hk.1.1.2.2,⟨hk.1.2,hk.2⟩⟩⟩⟩)⟩,⟨by (with_reducible repeat (first | apply Kd.S_alloc | apply Kd.S_drewN | apply Kd.S_drew));exact Kd.S_mono HO_273005.out (fun _ hk => ⟨hk.1.1.1,⟨hk.1.1.2.1,⟨hk.1.1.2.2,⟨hk.1.2,hk.2⟩⟩⟩⟩)⟩,⟨zr HO_273006⟩,⟨zr HO_273007⟩,⟨by (with_reducible repeat (first | apply Kd.S_alloc | apply Kd.S_drewN | apply Kd.S_drew));exact Kd.S_mono HO282.out (fun _ hk => ⟨hk.1.1.1.2,⟨hk.1.1.2,⟨hk.1.2,⟨hk.2,hk.1.1.1.1⟩⟩⟩⟩)⟩,⟨by (with_reducible repeat (first | apply Kd.S_alloc | apply Kd.S_drewN | apply Kd.S_drew));exact Kd.S_mono HO285.out (fun _ hk => ⟨hk.1.1.1.2,⟨hk.1.1.2,⟨hk.1.2,⟨hk.2,hk.1.1.1.1⟩⟩⟩⟩)⟩,⟨by (with_reducible repeat (first | apply r1_ | apply r2_ | apply r3_));exact Kd.R_mono HO288.out (fun _ hk => ⟨hk.1.2,hk.2⟩)⟩,⟨by (with_reducible repeat (first | apply r1_ | apply r2_ | apply r3_));exact Kd.R_mono HO291.out (fun _ hk => ⟨hk.1.2,hk.2⟩)⟩,⟨by (with_reducible repeat (first | apply k1_ | apply k2_ | apply k3_));exact BK254.out⟩,⟨by (with_reducible repeat (first | apply k1_ | apply k2_ | apply k3_));exact BK272.out⟩,⟨by (with_reducible repeat (first | apply k1_ | apply k2_ | apply k3_));exact BK293.out⟩,⟨zl_ HB⟩⟩
       ·replace c58 := Bool.eq_false_iff.mpr c58
        subst c58
        have H1 : (laws_FnExactNewReplica.j1 kj4 t274 true t255 t256 t257 t258 m259 m262 t265 t268) = some r := by rw [if_neg (show ¬ (false = true) by decide)] at H;exact H
        clear H
        have H := H1
        clear H1
        have H' := am_ H
        clear H
        have hnb65 := NB293_254.out
        have hnc65 := NB254_293.out
        have hnb66 := NB293_272.out
        have hnc66 := NB272_293.out
        obtain ⟨hcz67_0,hcz67_1,hcz67_2,hcz67_3,hcz67_4,hcz67_5,hcz67_6,hcz67_7,hfz67_0,hfz67_1,hfz67_2,hfz67_3,hfz67_4,hfz67_5,hfz67_6,hfz67_7⟩ := zc8 BK293
        have hnb68 := NB254_272.out
        have hnc68 := NB272_254.out
        obtain ⟨hcz69_0,hcz69_1,hcz69_2,hcz69_3,hcz69_4,hcz69_5,hcz69_6,hcz69_7,hfz69_0,hfz69_1,hfz69_2,hfz69_3,hfz69_4,hfz69_5,hfz69_6,hfz69_7⟩ := zc8 BK254
        go_wp2_with (first | ((with_reducible refine gate_callee (f := 6) rfl ?_);refine zgl (some 53) Try.func6 #[.agg #[.int .i64 t276,.int .i64 t277,.int .i64 t278,.bool t279,.slice Ao53 t280.length co53,.slice Ao54 t283.length co54,.slice Ao55 t286.length co55,.slice Ao56 t289.length co56],.agg #[.int .i64 t237,.int .i64 t238,.int .i64 t239,.bool t240,.slice Ao9 t241.length co9,.slice Ao10 t244.length co10,.slice Ao11 t247.length co11,.slice Ao12 t250.length co12]] ?_;(with_reducible refine (laws_eqReplica.calls kj4 t276 t277 t278 t279 _ _ t280 _ _ t283 _ _ t286 _ _ t289 t237 t238 t239 t240 _ _ t241 _ _ t244 _ _ t247 _ _ t250 false _ ?side1 ?side2 ?side3 ?side4 ?side5 ?side6 ?side7 ?side8 ?side9 ?side10 ?side11 ?side12 ?side13 ?side14 ?side15 ?side16 A57.out).mono ?_);(case side1 => refine (Kd.S_reads' (e := 51) (base := w.heap.size) (ok := fun k_ => ((((some k_ ≠ (.slice Ao56 t289.length co56 : Value).ownBlock ∧ some k_ ≠ (.slice Ao9 t241.length co9 : Value).ownBlock) ∧ some k_ ≠ (.slice Ao12 t250.length co12 : Value).ownBlock) ∧ some k_ ≠ (.slice Ao17 t259.length co17 : Value).ownBlock) ∧ some k_ ≠ (.slice Ao20 t268.length co20 : Value).ownBlock)) (n := t280.length) (c := co53) ?_).2.2;exact (by (with_reducible repeat (first | apply Kd.S_alloc | apply Kd.S_drewN | apply Kd.S_drew));exact (Kd.S_mono (Kd.S_far (p := ⟨gb293,7,none⟩) (Kd.S_far (p := ⟨gb293,6,none⟩) (Kd.S_far (p := ⟨gb293,5,none⟩) (Kd.S_far (p := ⟨gb293,4,none⟩) (Kd.S_far (p := ⟨gb293,3,none⟩) (Kd.S_far (p := ⟨gb293,2,none⟩) (Kd.S_far (p := ⟨gb293,1,none⟩) (Kd.S_far (p := ⟨gb293,0,none⟩) (Kd.S_types HO282.out BK293.out (by decide)) (fun _ hk => hk.2) (.int .i64 t276)) (fun _ hk => hk.2) (.int .i64 t277)) (fun _ hk => hk.2) (.int .i64 t278)) (fun _ hk => hk.2) (.bool t279)) (fun _ hk => hk.2) (.slice Ao53 t280.length co53)) (fun _ hk => hk.2) (.slice Ao54 t283.length co54)) (fun _ hk => hk.2) (.slice Ao55 t286.length co55)) (fun _ hk => hk.2) (.slice Ao56 t289.length co56)) (fun _ h_ => h_.1))));(case side2 => exact (Kd.S_reads' HO282.out).2.1);(case side3 => refine (Kd.S_reads' (e := 46) (base := w.heap.size) (ok := fun k_ => ((((some k_ ≠ (.slice Ao56 t289.length co56 : Value).ownBlock ∧ some k_ ≠ (.slice Ao10 t244.length co10 : Value).ownBlock) ∧ some k_ ≠ (.slice Ao12 t250.length co12 : Value).ownBlock) ∧ some k_ ≠ (.slice Ao18 t262.length co18 : Value).ownBlock) ∧ some k_ ≠ (.slice Ao20 t268.length co20 : Value).ownBlock)) (n := t283.length) (c := co54) ?_).2.2;exact (by (with_reducible repeat (first | apply Kd.S_alloc | apply Kd.S_drewN | apply Kd.S_drew));exact (Kd.S_mono (Kd.S_far (p := ⟨gb293,7,none⟩) (Kd.S_far (p := ⟨gb293,6,none⟩) (Kd.S_far (p := ⟨gb293,5,none⟩) (Kd.S_far (p := ⟨gb293,4,none⟩) (Kd.S_far (p := ⟨gb293,3,none⟩) (Kd.S_far (p := ⟨gb293,2,none⟩) (Kd.S_far (p := ⟨gb293,1,none⟩) (Kd.S_far (p := ⟨gb293,0,none⟩) (Kd.S_types HO285.out BK293.out (by decide)) (fun _ hk => hk.2) (.int .i64 t276)) (fun _ hk => hk.2) (.int .i64 t277)) (fun _ hk => hk.2) (.int .i64 t278)) (fun _ hk => hk.2) (.bool t279)) (fun _ hk => hk.2) (.slice Ao53 t280.length co53)) (fun _ hk => hk.2) (.slice Ao54 t283.length co54)) (fun _ hk => hk.2) (.slice Ao55 t286.length co55)) (fun _ hk => hk.2) (.slice Ao56 t289.length co56)) (fun _ h_ => h_.1))));(case side4 => exact (Kd.S_reads' HO285.out).2.1);(case side5 => refine (Kd.R_reads' (e := 9) (base := w.heap.size) (ok := fun k_ => ((True ∧ some k_ ≠ (.slice Ao11 t247.length co11 : Value).ownBlock) ∧ some k_ ≠ (.slice Ao19 t265.length co19 : Value).ownBlock)) (n := t286.length) (c := co55) ?_).2.2;exact (by (with_reducible repeat (first | apply r1_ | apply r2_ | apply r3_));exact (Kd.R_mono (zrf (Kd.R_types HO288.out BK293.out (by decide))) (fun _ h_ => h_.1))));(case side6 => exact (Kd.R_reads' HO288.out).2.1);(case side7 => refine (Kd.R_reads' (e := 55) (base := w.heap.size) (ok := fun k_ => ((True ∧ some k_ ≠ (.slice Ao12 t250.length co12 : Value).ownBlock) ∧ some k_ ≠ (.slice Ao20 t268.length co20 : Value).ownBlock)) (n := t289.length) (c := co56) ?_).2.2;exact (by (with_reducible repeat (first | apply r1_ | apply r2_ | apply r3_));exact (Kd.R_mono (zrf (Kd.R_types HO291.out BK293.out (by decide))) (fun _ h_ => h_.1))));(case side8 => exact (Kd.R_reads' HO291.out).2.1);(case side9 => refine (Kd.S_reads' (e := 51) (base := w.heap.size) (ok := fun k_ => (((some k_ ≠ (.slice Ao12 t250.length co12 : Value).ownBlock ∧ (some k_ ≠ (.slice Ao17 t259.length co17 : Value).ownBlock ∧ some k_ ≠ (.slice Ao20 t268.length co20 : Value).ownBlock)) ∧ some k_ ≠ (.slice Ao53 t280.length co53 : Value).ownBlock) ∧ some k_ ≠ (.slice Ao56 t289.length co56 : Value).ownBlock)) (n := t241.length) (c := co9) ?_).2.2;exact (by (with_reducible repeat (first | apply Kd.S_alloc | apply Kd.S_drewN | apply Kd.S_drew));exact (Kd.S_mono (Kd.S_far (p := ⟨gb293,7,none⟩) (Kd.S_far (p := ⟨gb293,6,none⟩) (Kd.S_far (p := ⟨gb293,5,none⟩) (Kd.S_far (p := ⟨gb293,4,none⟩) (Kd.S_far (p := ⟨gb293,3,none⟩) (Kd.S_far (p := ⟨gb293,2,none⟩) (Kd.S_far (p := ⟨gb293,1,none⟩) (Kd.S_far (p := ⟨gb293,0,none⟩) (Kd.S_types HO_255004.out BK293.out (by decide)) (fun _ hk => hk.2) (.int .i64 t276)) (fun _ hk => hk.2) (.int .i64 t277)) (fun _ hk => hk.2) (.int .i64 t278)) (fun _ hk => hk.2) (.bool t279)) (fun _ hk => hk.2) (.slice Ao53 t280.length co53)) (fun _ hk => hk.2) (.slice Ao54 t283.length co54)) (fun _ hk => hk.2) (.slice Ao55 t286.length co55)) (fun _ hk => hk.2) (.slice Ao56 t289.length co56)) (fun _ h_ => h_.1))));(case side10 => exact (Kd.S_reads' HO_255004.out).2.1);(case side11 => refine (Kd.S_reads' (e := 46) (base := w.heap.size) (ok := fun k_ => (((some k_ ≠ (.slice Ao12 t250.length co12 : Value).ownBlock ∧ (some k_ ≠ (.slice Ao18 t262.length co18 : Value).ownBlock ∧ some k_ ≠ (.slice Ao20 t268.length co20 : Value).ownBlock)) ∧ some k_ ≠ (.slice Ao54 t283.length co54 : Value).ownBlock) ∧ some k_ ≠ (.slice Ao56 t289.length co56 : Value).ownBlock)) (n := t244.length) (c := co10) ?_).2.2;exact (by (with_reducible repeat (first | apply Kd.S_alloc | apply Kd.S_drewN | apply Kd.S_drew));exact (Kd.S_mono (Kd.S_far (p := ⟨gb293,7,none⟩) (Kd.S_far (p := ⟨gb293,6,none⟩) (Kd.S_far (p := ⟨gb293,5,none⟩) (Kd.S_far (p := ⟨gb293,4,none⟩) (Kd.S_far (p := ⟨gb293,3,none⟩) (Kd.S_far (p := ⟨gb293,2,none⟩) (Kd.S_far (p := ⟨gb293,1,none⟩) (Kd.S_far (p := ⟨gb293,0,none⟩) (Kd.S_types HO_255005.out BK293.out (by decide)) (fun _ hk => hk.2) (.int .i64 t276)) (fun _ hk => hk.2) (.int .i64 t277)) (fun _ hk => hk.2) (.int .i64 t278)) (fun _ hk => hk.2) (.bool t279)) (fun _ hk => hk.2) (.slice Ao53 t280.length co53)) (fun _ hk => hk.2) (.slice Ao54 t283.length co54)) (fun _ hk => hk.2) (.slice Ao55 t286.length co55)) (fun _ hk => hk.2) (.slice Ao56 t289.length co56)) (fun _ h_ => h_.1))));(case side12 => exact (Kd.S_reads' HO_255005.out).2.1);(case side13 => refine (Kd.R_reads' (e := 9) (base := w.heap.size) (ok := fun k_ => (some k_ ≠ (.slice Ao19 t265.length co19 : Value).ownBlock ∧ some k_ ≠ (.slice Ao55 t286.length co55 : Value).ownBlock)) (n := t247.length) (c := co11) ?_).2.2;exact (by (with_reducible repeat (first | apply r1_ | apply r2_ | apply r3_));exact (Kd.R_mono (zrf (Kd.R_types HO_255006.out BK293.out (by decide))) (fun _ h_ => h_.1))));(case side14 => exact (Kd.R_reads' HO_255006.out).2.1);(case side15 => refine (Kd.R_reads' (e := 55) (base := w.heap.size) (ok := fun k_ => (some k_ ≠ (.slice Ao20 t268.length co20 : Value).ownBlock ∧ some k_ ≠ (.slice Ao56 t289.length co56 : Value).ownBlock)) (n := t250.length) (c := co12) ?_).2.2;exact (by (with_reducible repeat (first | apply r1_ | apply r2_ | apply r3_));exact (Kd.R_mono (zrf (Kd.R_types HO_255007.out BK293.out (by decide))) (fun _ h_ => h_.1))));(case side16 => exact (Kd.R_reads' HO_255007.out).2.1);rintro e w70 ⟨rfl,hb⟩;refine ⟨_,rfl,?_⟩;replace HO_255004 := am_ (Kd.S_below (by (with_reducible repeat (first | apply Kd.S_alloc | apply Kd.S_drewN | apply Kd.S_drew));exact (Kd.S_mono (Kd.S_far (p := ⟨gb293,7,none⟩) (Kd.S_far (p := ⟨gb293,6,none⟩) (Kd.S_far (p := ⟨gb293,5,none⟩) (Kd.S_far (p := ⟨gb293,4,none⟩) (Kd.S_far (p := ⟨gb293,3,none⟩) (Kd.S_far (p := ⟨gb293,2,none⟩) (Kd.S_far (p := ⟨gb293,1,none⟩) (Kd.S_far (p := ⟨gb293,0,none⟩) (Kd.S_types HO_255004.out BK293.out (by decide)) (fun _ hk => hk.2) (.int .i64 t276)) (fun _ hk => hk.2) (.int .i64 t277)) (fun _ hk => hk.2) (.int .i64 t278)) (fun _ hk => hk.2) (.bool t279)) (fun _ hk => hk.2) (.slice Ao53 t280.length co53)) (fun _ hk => hk.2) (.slice Ao54 t283.length co54)) (fun _ hk => hk.2) (.slice Ao55 t286.length co55)) (fun _ hk => hk.2) (.slice Ao56 t289.length co56)) (fun _ h_ => h_.1))) hb);replace HO_255005 := am_ (Kd.S_below (by (with_reducible repeat (first | apply Kd.S_alloc | apply Kd.S_drewN | apply Kd.S_drew));exact (Kd.S_mono (Kd.S_far (p := ⟨gb293,7,none⟩) (Kd.S_far (p := ⟨gb293,6,none⟩) (Kd.S_far (p := ⟨gb293,5,none⟩) (Kd.S_far (p := ⟨gb293,4,none⟩) (Kd.S_far (p := ⟨gb293,3,none⟩) (Kd.S_far (p := ⟨gb293,2,none⟩) (Kd.S_far (p := ⟨gb293,1,none⟩) (Kd.S_far (p := ⟨gb293,0,none⟩) (Kd.S_types HO_255005.out BK293.out (by decide)) (fun _ hk => hk.2) (.int .i64 t276)) (fun _ hk => hk.2) (.int .i64 t277)) (fun _ hk => hk.2) (.int .i64 t278)) (fun _ hk => hk.2) (.bool t279)) (fun _ hk => hk.2) (.slice Ao53 t280.length co53)) (fun _ hk => hk.2) (.slice Ao54 t283.length co54)) (fun _ hk => hk.2) (.slice Ao55 t286.length co55)) (fun _ hk => hk.2) (.slice Ao56 t289.length co56)) (fun _ h_ => h_.1))) hb);replace HO_255006 := am_ (Kd.R_below (by (with_reducible repeat (first | apply r1_ | apply r2_ | apply r3_));exact (Kd.R_mono (zrf (Kd.R_types HO_255006.out BK293.out (by decide))) (fun _ h_ => h_.1))) hb);replace HO_255007 := am_ (Kd.R_below (by (with_reducible repeat (first | apply r1_ | apply r2_ | apply r3_));exact (Kd.R_mono (zrf (Kd.R_types HO_255007.out BK293.out (by decide))) (fun _ h_ => h_.1))) hb);replace HO_273004 := am_ (Kd.S_below (by (with_reducible repeat (first | apply Kd.S_alloc | apply Kd.S_drewN | apply Kd.S_drew));exact (Kd.S_mono (Kd.S_far (p := ⟨gb293,7,none⟩) (Kd.S_far (p := ⟨gb293,6,none⟩) (Kd.S_far (p := ⟨gb293,5,none⟩) (Kd.S_far (p := ⟨gb293,4,none⟩) (Kd.S_far (p := ⟨gb293,3,none⟩) (Kd.S_far (p := ⟨gb293,2,none⟩) (Kd.S_far (p := ⟨gb293,1,none⟩) (Kd.S_far (p := ⟨gb293,0,none⟩) (Kd.S_types HO_273004.out BK293.out (by decide)) (fun _ hk => hk.2) (.int .i64 t276)) (fun _ hk => hk.2) (.int .i64 t277)) (fun _ hk => hk.2) (.int .i64 t278)) (fun _ hk => hk.2) (.bool t279)) (fun _ hk => hk.2) (.slice Ao53 t280.length co53)) (fun _ hk => hk.2) (.slice Ao54 t283.length co54)) (fun _ hk => hk.2) (.slice Ao55 t286.length co55)) (fun _ hk => hk.2) (.slice Ao56 t289.length co56)) (fun _ h_ => h_.1))) hb);replace HO_273005 := am_ (Kd.S_below (by (with_reducible repeat (first | apply Kd.S_alloc | apply Kd.S_drewN | apply Kd.S_drew));exact (Kd.S_mono (Kd.S_far (p := ⟨gb293,7,none⟩) (Kd.S_far (p := ⟨gb293,6,none⟩) (Kd.S_far (p := ⟨gb293,5,none⟩) (Kd.S_far (p := ⟨gb293,4,none⟩) (Kd.S_far (p := ⟨gb293,3,none⟩) (Kd.S_far (p := ⟨gb293,2,none⟩) (Kd.S_far (p := ⟨gb293,1,none⟩) (Kd.S_far (p := ⟨gb293,0,none⟩) (Kd.S_types HO_273005.out BK293.out (by decide)) (fun _ hk => hk.2) (.int .i64 t276)) (fun _ hk => hk.2) (.int .i64 t277)) (fun _ hk => hk.2) (.int .i64 t278)) (fun _ hk => hk.2) (.bool t279)) (fun _ hk => hk.2) (.slice Ao53 t280.length co53)) (fun _ hk => hk.2) (.slice Ao54 t283.length co54)) (fun _ hk => hk.2) (.slice Ao55 t286.length co55)) (fun _ hk => hk.2) (.slice Ao56 t289.length co56)) (fun _ h_ => h_.1))) hb);replace HO_273006 := am_ (Kd.R_below (by (with_reducible repeat (first | apply r1_ | apply r2_ | apply r3_));exact (Kd.R_mono (zrf (Kd.R_types HO_273006.out BK293.out (by decide))) (fun _ h_ => h_.1))) hb);replace HO_273007 := am_ (Kd.R_below (by (with_reducible repeat (first | apply r1_ | apply r2_ | apply r3_));exact (Kd.R_mono (zrf (Kd.R_types HO_273007.out BK293.out (by decide))) (fun _ h_ => h_.1))) hb);replace HO282 := am_ (Kd.S_below (by (with_reducible repeat (first | apply Kd.S_alloc | apply Kd.S_drewN | apply Kd.S_drew));exact (Kd.S_mono (Kd.S_far (p := ⟨gb293,7,none⟩) (Kd.S_far (p := ⟨gb293,6,none⟩) (Kd.S_far (p := ⟨gb293,5,none⟩) (Kd.S_far (p := ⟨gb293,4,none⟩) (Kd.S_far (p := ⟨gb293,3,none⟩) (Kd.S_far (p := ⟨gb293,2,none⟩) (Kd.S_far (p := ⟨gb293,1,none⟩) (Kd.S_far (p := ⟨gb293,0,none⟩) (Kd.S_types HO282.out BK293.out (by decide)) (fun _ hk => hk.2) (.int .i64 t276)) (fun _ hk => hk.2) (.int .i64 t277)) (fun _ hk => hk.2) (.int .i64 t278)) (fun _ hk => hk.2) (.bool t279)) (fun _ hk => hk.2) (.slice Ao53 t280.length co53)) (fun _ hk => hk.2) (.slice Ao54 t283.length co54)) (fun _ hk => hk.2) (.slice Ao55 t286.length co55)) (fun _ hk => hk.2) (.slice Ao56 t289.length co56)) (fun _ h_ => h_.1))) hb);replace HO285 := am_ (Kd.S_below (by (with_reducible repeat (first | apply Kd.S_alloc | apply Kd.S_drewN | apply Kd.S_drew));exact (Kd.S_mono (Kd.S_far (p := ⟨gb293,7,none⟩) (Kd.S_far (p := ⟨gb293,6,none⟩) (Kd.S_far (p := ⟨gb293,5,none⟩) (Kd.S_far (p := ⟨gb293,4,none⟩) (Kd.S_far (p := ⟨gb293,3,none⟩) (Kd.S_far (p := ⟨gb293,2,none⟩) (Kd.S_far (p := ⟨gb293,1,none⟩) (Kd.S_far (p := ⟨gb293,0,none⟩) (Kd.S_types HO285.out BK293.out (by decide)) (fun _ hk => hk.2) (.int .i64 t276)) (fun _ hk => hk.2) (.int .i64 t277)) (fun _ hk => hk.2) (.int .i64 t278)) (fun _ hk => hk.2) (.bool t279)) (fun _ hk => hk.2) (.slice Ao53 t280.length co53)) (fun _ hk => hk.2) (.slice Ao54 t283.length co54)) (fun _ hk => hk.2) (.slice Ao55 t286.length co55)) (fun _ hk => hk.2) (.slice Ao56 t289.length co56)) (fun _ h_ => h_.1))) hb);replace HO288 := am_ (Kd.R_below (by (with_reducible repeat (first | apply r1_ | apply r2_ | apply r3_));exact (Kd.R_mono (zrf (Kd.R_types HO288.out BK293.out (by decide))) (fun _ h_ => h_.1))) hb);replace HO291 := am_ (Kd.R_below (by (with_reducible repeat (first | apply r1_ | apply r2_ | apply r3_));exact (Kd.R_mono (zrf (Kd.R_types HO291.out BK293.out (by decide))) (fun _ h_ => h_.1))) hb);replace BK254 := am_ (blk_below (g := gb254) (o := .cells #[.int .i64 t237,.int .i64 t238,.int .i64 t239,.bool t240,.slice Ao9 t241.length co9,.slice Ao10 t244.length co10,.slice Ao11 t247.length co11,.slice Ao12 t250.length co12] 27 (0,0)) (zq BK254) hb);replace BK272 := am_ (blk_below (g := gb272) (o := .cells #[.int .i64 t255,.int .i64 t256,.int .i64 t257,.bool t258,.slice Ao17 t259.length co17,.slice Ao18 t262.length co18,.slice Ao19 t265.length co19,.slice Ao20 t268.length co20] 27 (0,0)) (zq BK272) hb);replace BK293 := am_ (blk_below (g := gb293) (o := .cells #[.int .i64 t276,.int .i64 t277,.int .i64 t278,.bool t279,.slice Ao53 t280.length co53,.slice Ao54 t283.length co54,.slice Ao55 t286.length co55,.slice Ao56 t289.length co56] 27 (0,0)) (zq BK293) hb);replace HB := zs_ HB hb;(try clear hb);(try clear hb2);(try clear hk);(try clear hi)))
        go_meet
        case rel => exact ⟨_,(true),(by first | rfl | (simp;done) | (simp [*];done)),H',⟨by have := HJ4.out;first | omega | exact Nat.le_refl _⟩,⟨by (with_reducible repeat (first | apply Kd.S_alloc | apply Kd.S_drewN | apply Kd.S_drew));exact Kd.S_mono HO_255004.out (fun _ hk => ⟨hk.1.1.1,⟨hk.1.1.2.1,⟨hk.1.1.2.2,⟨hk.1.2,hk.2⟩⟩⟩⟩)⟩,⟨by (with_reducible repeat (first | apply Kd.S_alloc | apply Kd.S_drewN | apply Kd.S_drew));exact Kd.S_mono HO_255005.out (fun _ hk => ⟨hk.1.1.1,⟨hk.1.1.2.1,⟨hk.1.1.2.2,⟨hk.1.2,hk.2⟩⟩⟩⟩)⟩,⟨zr HO_255006⟩,⟨zr HO_255007⟩,⟨by (with_reducible repeat (first | apply Kd.S_alloc | apply Kd.S_drewN | apply Kd.S_drew));exact Kd.S_mono HO_273004.out (fun _ hk => ⟨hk.1.1.1,⟨hk.1.1.2.1,⟨hk.1.1.2.2,⟨hk.1.2,hk.2⟩⟩⟩⟩)⟩,⟨by (with_reducible repeat (first | apply Kd.S_alloc | apply Kd.S_drewN | apply Kd.S_drew));exact Kd.S_mono HO_273005.out (fun _ hk => ⟨hk.1.1.1,⟨hk.1.1.2.1,⟨hk.1.1.2.2,⟨hk.1.2,hk.2⟩⟩⟩⟩)⟩,⟨zr HO_273006⟩,⟨zr HO_273007⟩,⟨by (with_reducible repeat (first | apply Kd.S_alloc | apply Kd.S_drewN | apply Kd.S_drew));exact Kd.S_mono HO282.out (fun _ hk => ⟨hk.1.1.1.2,⟨hk.1.1.2,⟨hk.1.2,⟨hk.2,hk.1.1.1.1⟩⟩⟩⟩)⟩,⟨by (with_reducible repeat (first | apply Kd.S_alloc | apply Kd.S_drewN | apply Kd.S_drew));exact Kd.S_mono HO285.out (fun _ hk => ⟨hk.1.1.1.2,⟨hk.1.1.2,⟨hk.1.2,⟨hk.2,hk.1.1.1.1⟩⟩⟩⟩)⟩,⟨by (with_reducible repeat (first | apply r1_ | apply r2_ | apply r3_));exact Kd.R_mono HO288.out (fun _ hk => ⟨hk.1.2,hk.2⟩)⟩,⟨by (with_reducible repeat (first | apply r1_ | apply r2_ | apply r3_));exact Kd.R_mono HO291.out (fun _ hk => ⟨hk.1.2,hk.2⟩)⟩,⟨by (with_reducible repeat (first | apply k1_ | apply k2_ | apply k3_));exact BK254.out⟩,⟨by (with_reducible repeat (first | apply k1_ | apply k2_ | apply k3_));exact BK272.out⟩,⟨by (with_reducible repeat (first | apply k1_ | apply k2_ | apply k3_));exact BK293.out⟩,⟨zl_ HB⟩⟩
      case rest =>
       clear HC42
       try clear c1
       try clear c2
       try clear p2
       try clear c3
       try clear c4
       try clear c5
       try clear c6
       try clear c7
       try clear c8
       try clear c15
       try clear c22
       try clear c23
       try clear c27
       try clear c31
       try clear c34
       try clear c34b0
       try clear c35
       try clear c40
       try clear c40b0
       try clear c40b1
       try clear c43
       try clear c50
       try clear c51
       try clear c58
       try clear c59
       try clear c60
       try clear c62
       try clear c65
       try clear c66
       try clear c68
       try clear hcz16_0
       try clear hcz16_1
       try clear hcz16_2
       try clear hcz16_3
       try clear hcz16_4
       try clear hcz16_5
       try clear hcz16_6
       try clear hcz16_7
       try clear hcz24_0
       try clear hcz24_1
       try clear hcz24_2
       try clear hcz24_3
       try clear hcz24_4
       try clear hcz24_5
       try clear hcz24_6
       try clear hcz24_7
       try clear hcz25_0
       try clear hcz25_1
       try clear hcz25_2
       try clear hcz25_3
       try clear hcz25_4
       try clear hcz25_5
       try clear hcz25_6
       try clear hcz25_7
       try clear hcz28_0
       try clear hcz28_1
       try clear hcz28_2
       try clear hcz28_3
       try clear hcz28_4
       try clear hcz28_5
       try clear hcz28_6
       try clear hcz28_7
       try clear hcz29_0
       try clear hcz29_1
       try clear hcz29_2
       try clear hcz29_3
       try clear hcz29_4
       try clear hcz29_5
       try clear hcz29_6
       try clear hcz29_7
       try clear hcz36_0
       try clear hcz36_1
       try clear hcz36_2
       try clear hcz36_3
       try clear hcz36_4
       try clear hcz36_5
       try clear hcz36_6
       try clear hcz36_7
       try clear hcz38_0
       try clear hcz38_1
       try clear hcz38_2
       try clear hcz38_3
       try clear hcz38_4
       try clear hcz38_5
       try clear hcz38_6
       try clear hcz38_7
       try clear hcz44_0
       try clear hcz44_1
       try clear hcz44_2
       try clear hcz44_3
       try clear hcz44_4
       try clear hcz44_5
       try clear hcz44_6
       try clear hcz44_7
       try clear hcz46_0
       try clear hcz46_1
       try clear hcz46_2
       try clear hcz46_3
       try clear hcz46_4
       try clear hcz46_5
       try clear hcz46_6
       try clear hcz46_7
       try clear hcz52_0
       try clear hcz52_1
       try clear hcz52_2
       try clear hcz52_3
       try clear hcz52_4
       try clear hcz52_5
       try clear hcz52_6
       try clear hcz52_7
       try clear hcz61_0
       try clear hcz61_1
       try clear hcz61_2
       try clear hcz61_3
       try clear hcz61_4
       try clear hcz61_5
       try clear hcz61_6
       try clear hcz61_7
       try clear hcz63_0
       try clear hcz63_1
       try clear hcz63_2
       try clear hcz63_3
       try clear hcz63_4
       try clear hcz63_5
       try clear hcz63_6
       try clear hcz63_7
       try clear hcz67_0
       try clear hcz67_1
       try clear hcz67_2
       try clear hcz67_3
       try clear hcz67_4
       try clear hcz67_5
       try clear hcz67_6
       try clear hcz67_7
       try clear hcz69_0
       try clear hcz69_1
       try clear hcz69_2
       try clear hcz69_3
       try clear hcz69_4
       try clear hcz69_5
       try clear hcz69_6
       try clear hcz69_7
       try clear hcz8_0
       try clear hcz8_1
       try clear hcz8_2
       try clear hcz8_3
       try clear hcz8_4
       try clear hcz8_5
       try clear hcz8_6
       try clear hcz8_7
       try clear hfz16_0
       try clear hfz16_1
       try clear hfz16_2
       try clear hfz16_3
       try clear hfz16_4
       try clear hfz16_5
       try clear hfz16_6
       try clear hfz16_7
       try clear hfz24_0
       try clear hfz24_1
       try clear hfz24_2
       try clear hfz24_3
       try clear hfz24_4
       try clear hfz24_5
       try clear hfz24_6
       try clear hfz24_7
       try clear hfz25_0
       try clear hfz25_1
       try clear hfz25_2
       try clear hfz25_3
       try clear hfz25_4
       try clear hfz25_5
       try clear hfz25_6
       try clear hfz25_7
       try clear hfz28_0
       try clear hfz28_1
       try clear hfz28_2
       try clear hfz28_3
       try clear hfz28_4
       try clear hfz28_5
       try clear hfz28_6
       try clear hfz28_7
       try clear hfz29_0
       try clear hfz29_1
       try clear hfz29_2
       try clear hfz29_3
       try clear hfz29_4
       try clear hfz29_5
       try clear hfz29_6
       try clear hfz29_7
       try clear hfz36_0
       try clear hfz36_1
       try clear hfz36_2
       try clear hfz36_3
       try clear hfz36_4
       try clear hfz36_5
       try clear hfz36_6
       try clear hfz36_7
       try clear hfz38_0
       try clear hfz38_1
       try clear hfz38_2
       try clear hfz38_3
       try clear hfz38_4
       try clear hfz38_5
       try clear hfz38_6
       try clear hfz38_7
       try clear hfz44_0
       try clear hfz44_1
       try clear hfz44_2
       try clear hfz44_3
       try clear hfz44_4
       try clear hfz44_5
       try clear hfz44_6
       try clear hfz44_7
       try clear hfz46_0
       try clear hfz46_1
       try clear hfz46_2
       try clear hfz46_3
       try clear hfz46_4
       try clear hfz46_5
       try clear hfz46_6
       try clear hfz46_7
       try clear hfz52_0
       try clear hfz52_1
       try clear hfz52_2
       try clear hfz52_3
       try clear hfz52_4
       try clear hfz52_5
       try clear hfz52_6
       try clear hfz52_7
       try clear hfz61_0
       try clear hfz61_1
       try clear hfz61_2
       try clear hfz61_3
       try clear hfz61_4
       try clear hfz61_5
       try clear hfz61_6
       try clear hfz61_7
       try clear hfz63_0
       try clear hfz63_1
       try clear hfz63_2
       try clear hfz63_3
       try clear hfz63_4
       try clear hfz63_5
       try clear hfz63_6
       try clear hfz63_7
       try clear hfz67_0
       try clear hfz67_1
       try clear hfz67_2
       try clear hfz67_3
       try clear hfz67_4
       try clear hfz67_5
       try clear hfz67_6
       try clear hfz67_7
       try clear hfz69_0
       try clear hfz69_1
       try clear hfz69_2
       try clear hfz69_3
       try clear hfz69_4
       try clear hfz69_5
       try clear hfz69_6
       try clear hfz69_7
       try clear hfz8_0
       try clear hfz8_1
       try clear hfz8_2
       try clear hfz8_3
       try clear hfz8_4
       try clear hfz8_5
       try clear hfz8_6
       try clear hfz8_7
       try clear p2
       obtain ⟨kq,x59_41,rfl,HA,HJ41,HO_255004,HO_255005,HO_255006,HO_255007,HO_273004,HO_273005,HO_273006,HO_273007,HO_294004,HO_294005,HO_294006,HO_294007,BK254,BK272,BK293,HB⟩ := hcut
       cases kq with
       | zero => exact absurd HA.out (by simp [laws_FnExactNewReplica.j1])
       | succ kj41 =>
        have H := HA.out
        clear HA
        simp only [laws_FnExactNewReplica.j1] at H
        by_cases c71 : x59_41 = true
        ·subst c71
         have H1 : (some false) = some r := by rw [if_pos rfl] at H;exact H
         clear H
         have H := H1
         clear H1
         obtain rfl := Option.some.inj H
         go_wp2
         go_ret
         exact ⟨zt_,zl_ HB⟩
        ·replace c71 := Bool.eq_false_iff.mpr c71
         subst c71
         have H1 : ((laws_heldReplica.f kj41 t255 t256 t257 t258 m259 m262 t265 t268 1).bind fun t295 => (if t295 < 0 then (some false) else (if t295 = t274 then (some true) else (some false)))) = some r := by rw [if_neg (show ¬ (false = true) by decide)] at H;exact H
         clear H
         have H := H1
         clear H1
         replace H := Option.bind_eq_some_iff.mp H
         obtain ⟨t295,A720,H⟩ := H
         try dsimp only at H
         have A72 := am_ A720
         clear A720
         by_cases c73 : t295 < 0
         ·rw [if_pos c73] at H
          have c73b0 : decide (t295 < 0) = true := decide_eq_true c73
          clear c73
          obtain rfl := Option.some.inj H
          have hnb74 := NB272_254.out
          have hnc74 := NB254_272.out
          have hnb75 := NB272_293.out
          have hnc75 := NB293_272.out
          obtain ⟨hcz76_0,hcz76_1,hcz76_2,hcz76_3,hcz76_4,hcz76_5,hcz76_6,hcz76_7,hfz76_0,hfz76_1,hfz76_2,hfz76_3,hfz76_4,hfz76_5,hfz76_6,hfz76_7⟩ := zc8 BK272
          go_wp2_with (first | ((with_reducible refine gate_callee (f := 8) rfl ?_);refine zgl (some 62) Try.func8 #[.agg #[.int .i64 t255,.int .i64 t256,.int .i64 t257,.bool t258,.slice Ao17 t259.length co17,.slice Ao18 t262.length co18,.slice Ao19 t265.length co19,.slice Ao20 t268.length co20],.int .i64 1] ?_;(with_reducible refine (held_n kj41 t255 t256 t257 t258 _ _ _ m259 _ _ _ m262 _ _ t265 _ _ t268 1 t295 _ ?e4q ?e5q ?side1 ?side2 ?side3 ?side4 ?side5 ?side6 ?side7 ?side8 A72.out).mono ?_);(case e4q => exact (Kd.S_reads' HO_273004.out).1);(case e5q => exact (Kd.S_reads' HO_273005.out).1);(case side1 => repeat (first | exact (Kd.S_reads' HO_273004.out).2.2 | (with_reducible refine Kd.C_alloc ?_ _) | (with_reducible refine Kd.C_drewN ?_ _) | (with_reducible refine Kd.C_drew ?_)));(case side2 => exact (Kd.S_reads' HO_273004.out).2.1);(case side3 => repeat (first | exact (Kd.S_reads' HO_273005.out).2.2 | (with_reducible refine Kd.C_alloc ?_ _) | (with_reducible refine Kd.C_drewN ?_ _) | (with_reducible refine Kd.C_drew ?_)));(case side4 => exact (Kd.S_reads' HO_273005.out).2.1);(case side5 => repeat (first | exact (Kd.R_reads' HO_273006.out).2.2 | (with_reducible refine Kd.C_alloc ?_ _) | (with_reducible refine Kd.C_drewN ?_ _) | (with_reducible refine Kd.C_drew ?_)));(case side6 => exact (Kd.R_reads' HO_273006.out).2.1);(case side7 => repeat (first | exact (Kd.R_reads' HO_273007.out).2.2 | (with_reducible refine Kd.C_alloc ?_ _) | (with_reducible refine Kd.C_drewN ?_ _) | (with_reducible refine Kd.C_drew ?_)));(case side8 => exact (Kd.R_reads' HO_273007.out).2.1);rintro e w77 ⟨rfl,hb⟩;refine ⟨_,rfl,?_⟩;replace HO_273004 := am_ (Kd.S_below (by (with_reducible repeat (first | apply Kd.S_alloc | apply Kd.S_drewN | apply Kd.S_drew));exact HO_273004.out) hb);replace HO_273005 := am_ (Kd.S_below (by (with_reducible repeat (first | apply Kd.S_alloc | apply Kd.S_drewN | apply Kd.S_drew));exact HO_273005.out) hb);replace HO_273006 := zrb HO_273006 hb;replace HO_273007 := zrb HO_273007 hb;replace BK272 := zb BK272 hb;replace HB := zs_ HB hb;(try clear hb);(try clear hb2);(try clear hk);(try clear hi)))
          go_ret
          exact ⟨zt_,zl_ HB⟩
         ·rw [if_neg c73] at H
          have c73b0 : decide (t295 < 0) = false := decide_eq_false c73
          clear c73
          by_cases c78 : t295 = t274
          ·rw [if_pos c78] at H
           have c78b0 : (t295 == t274) = true := beq_iff_eq.mpr c78
           have c78b1 : (t295 != t274) = false := bne_eq_false_iff_eq.mpr c78
           clear c78
           obtain rfl := Option.some.inj H
           have hnb79 := NB272_254.out
           have hnc79 := NB254_272.out
           have hnb80 := NB272_293.out
           have hnc80 := NB293_272.out
           obtain ⟨hcz81_0,hcz81_1,hcz81_2,hcz81_3,hcz81_4,hcz81_5,hcz81_6,hcz81_7,hfz81_0,hfz81_1,hfz81_2,hfz81_3,hfz81_4,hfz81_5,hfz81_6,hfz81_7⟩ := zc8 BK272
           go_wp2_with (first | ((with_reducible refine gate_callee (f := 8) rfl ?_);refine zgl (some 62) Try.func8 #[.agg #[.int .i64 t255,.int .i64 t256,.int .i64 t257,.bool t258,.slice Ao17 t259.length co17,.slice Ao18 t262.length co18,.slice Ao19 t265.length co19,.slice Ao20 t268.length co20],.int .i64 1] ?_;(with_reducible refine (held_n kj41 t255 t256 t257 t258 _ _ _ m259 _ _ _ m262 _ _ t265 _ _ t268 1 t295 _ ?e4q ?e5q ?side1 ?side2 ?side3 ?side4 ?side5 ?side6 ?side7 ?side8 A72.out).mono ?_);(case e4q => exact (Kd.S_reads' HO_273004.out).1);(case e5q => exact (Kd.S_reads' HO_273005.out).1);(case side1 => repeat (first | exact (Kd.S_reads' HO_273004.out).2.2 | (with_reducible refine Kd.C_alloc ?_ _) | (with_reducible refine Kd.C_drewN ?_ _) | (with_reducible refine Kd.C_drew ?_)));(case side2 => exact (Kd.S_reads' HO_273004.out).2.1);(case side3 => repeat (first | exact (Kd.S_reads' HO_273005.out).2.2 | (with_reducible refine Kd.C_alloc ?_ _) | (with_reducible refine Kd.C_drewN ?_ _) | (with_reducible refine Kd.C_drew ?_)));(case side4 => exact (Kd.S_reads' HO_273005.out).2.1);(case side5 => repeat (first | exact (Kd.R_reads' HO_273006.out).2.2 | (with_reducible refine Kd.C_alloc ?_ _) | (with_reducible refine Kd.C_drewN ?_ _) | (with_reducible refine Kd.C_drew ?_)));(case side6 => exact (Kd.R_reads' HO_273006.out).2.1);(case side7 => repeat (first | exact (Kd.R_reads' HO_273007.out).2.2 | (with_reducible refine Kd.C_alloc ?_ _) | (with_reducible refine Kd.C_drewN ?_ _) | (with_reducible refine Kd.C_drew ?_)));(case side8 => exact (Kd.R_reads' HO_273007.out).2.1);rintro e w82 ⟨rfl,hb⟩;refine ⟨_,rfl,?_⟩;replace HO_273004 := am_ (Kd.S_below (by (with_reducible repeat (first | apply Kd.S_alloc | apply Kd.S_drewN | apply Kd.S_drew));exact HO_273004.out) hb);replace HO_273005 := am_ (Kd.S_below (by (with_reducible repeat (first | apply Kd.S_alloc | apply Kd.S_drewN | apply Kd.S_drew));exact HO_273005.out) hb);replace HO_273006 := zrb HO_273006 hb;replace HO_273007 := zrb HO_273007 hb;replace BK272 := zb BK272 hb;replace HB := zs_ HB hb;(try clear hb);(try clear hb2);(try clear hk);(try clear hi)))
           go_ret
           exact ⟨zt_,zl_ HB⟩
          ·rw [if_neg c78] at H
           have c78b0 : (t295 == t274) = false := beq_eq_false_iff_ne.mpr c78
           have c78b1 : (t295 != t274) = true := bne_iff_ne.mpr c78
           obtain rfl := Option.some.inj H
           have hnb83 := NB272_254.out
           have hnc83 := NB254_272.out
           have hnb84 := NB272_293.out
           have hnc84 := NB293_272.out
           obtain ⟨hcz85_0,hcz85_1,hcz85_2,hcz85_3,hcz85_4,hcz85_5,hcz85_6,hcz85_7,hfz85_0,hfz85_1,hfz85_2,hfz85_3,hfz85_4,hfz85_5,hfz85_6,hfz85_7⟩ := zc8 BK272
           go_wp2_with (first | ((with_reducible refine gate_callee (f := 8) rfl ?_);refine zgl (some 62) Try.func8 #[.agg #[.int .i64 t255,.int .i64 t256,.int .i64 t257,.bool t258,.slice Ao17 t259.length co17,.slice Ao18 t262.length co18,.slice Ao19 t265.length co19,.slice Ao20 t268.length co20],.int .i64 1] ?_;(with_reducible refine (held_n kj41 t255 t256 t257 t258 _ _ _ m259 _ _ _ m262 _ _ t265 _ _ t268 1 t295 _ ?e4q ?e5q ?side1 ?side2 ?side3 ?side4 ?side5 ?side6 ?side7 ?side8 A72.out).mono ?_);(case e4q => exact (Kd.S_reads' HO_273004.out).1);(case e5q => exact (Kd.S_reads' HO_273005.out).1);(case side1 => repeat (first | exact (Kd.S_reads' HO_273004.out).2.2 | (with_reducible refine Kd.C_alloc ?_ _) | (with_reducible refine Kd.C_drewN ?_ _) | (with_reducible refine Kd.C_drew ?_)));(case side2 => exact (Kd.S_reads' HO_273004.out).2.1);(case side3 => repeat (first | exact (Kd.S_reads' HO_273005.out).2.2 | (with_reducible refine Kd.C_alloc ?_ _) | (with_reducible refine Kd.C_drewN ?_ _) | (with_reducible refine Kd.C_drew ?_)));(case side4 => exact (Kd.S_reads' HO_273005.out).2.1);(case side5 => repeat (first | exact (Kd.R_reads' HO_273006.out).2.2 | (with_reducible refine Kd.C_alloc ?_ _) | (with_reducible refine Kd.C_drewN ?_ _) | (with_reducible refine Kd.C_drew ?_)));(case side6 => exact (Kd.R_reads' HO_273006.out).2.1);(case side7 => repeat (first | exact (Kd.R_reads' HO_273007.out).2.2 | (with_reducible refine Kd.C_alloc ?_ _) | (with_reducible refine Kd.C_drewN ?_ _) | (with_reducible refine Kd.C_drew ?_)));(case side8 => exact (Kd.R_reads' HO_273007.out).2.1);rintro e w86 ⟨rfl,hb⟩;refine ⟨_,rfl,?_⟩;replace HB := zs_ HB hb;(try clear hb);(try clear hb2);(try clear hk);(try clear hi)))
           go_ret
           exact ⟨zt_,zl_ HB⟩
     ·rw [if_neg c40] at H
      have c40b0 : (t275 == t274) = false := beq_eq_false_iff_ne.mpr c40
      have c40b1 : (t275 != t274) = true := bne_iff_ne.mpr c40
      obtain rfl := Option.some.inj H
      have hnb87 := NB272_254.out
      have hnc87 := NB254_272.out
      obtain ⟨hcz88_0,hcz88_1,hcz88_2,hcz88_3,hcz88_4,hcz88_5,hcz88_6,hcz88_7,hfz88_0,hfz88_1,hfz88_2,hfz88_3,hfz88_4,hfz88_5,hfz88_6,hfz88_7⟩ := zc8 BK272
      go_wp2_with (first | ((with_reducible refine gate_callee (f := 7) rfl ?_);refine zgl (some 36) Try.func7 #[.agg #[.int .i64 t255,.int .i64 t256,.int .i64 t257,.bool t258,.slice Ao17 t259.length co17,.slice Ao18 t262.length co18,.slice Ao19 t265.length co19,.slice Ao20 t268.length co20],.int .i64 1] ?_;(with_reducible refine (laws_markReplica.calls kj4 t255 t256 t257 t258 _ _ _ t259 _ _ _ t262 _ _ t265 _ _ t268 1 t274 m259 m262 ?ok4q ?ok5q w _ ?hBq ?h4q ?h5q A32.out).mono ?_);(case hBq => exact zl_ HB);(case h4q => exact (by (with_reducible repeat (first | apply Kd.S_alloc | apply Kd.S_drewN | apply Kd.S_drew));exact HO_273004.out));(case h5q => exact (by (with_reducible repeat (first | apply Kd.S_alloc | apply Kd.S_drewN | apply Kd.S_drew));exact HO_273005.out));rintro e w89 ⟨rfl,h4_,h5_,hM,hb⟩;refine ⟨_,rfl,?_⟩;have q4_ := h4_;have q5_ := h5_;clear h4_ h5_;replace HO_273006 := am_ (hM.R HO_273006.out (.inr (by decide)) (.inr (by decide)));replace HO_273007 := am_ (hM.R HO_273007.out (.inr (by decide)) (.inr (by decide)));replace HO_273004 := am_ q4_;replace HO_273005 := am_ q5_;replace BK272 := am_ (hM.blk BK272.out (by decide) (by decide));replace HB := am_ hb;clear hM q4_ q5_;(try clear hb);(try clear hb2);(try clear hk);(try clear hi);obtain ⟨hcz90_0,hcz90_1,hcz90_2,hcz90_3,hcz90_4,hcz90_5,hcz90_6,hcz90_7,hfz90_0,hfz90_1,hfz90_2,hfz90_3,hfz90_4,hfz90_5,hfz90_6,hfz90_7⟩ := zc8 BK272) | ((with_reducible refine gate_callee (f := 8) rfl ?_);refine zgl (some 39) Try.func8 #[.agg #[.int .i64 t255,.int .i64 t256,.int .i64 t257,.bool t258,.slice Ao17 t259.length co17,.slice Ao18 t262.length co18,.slice Ao19 t265.length co19,.slice Ao20 t268.length co20],.int .i64 1] ?_;(with_reducible refine (held_n kj4 t255 t256 t257 t258 _ _ _ m259 _ _ _ m262 _ _ t265 _ _ t268 1 t275 _ ?e4q ?e5q ?side1 ?side2 ?side3 ?side4 ?side5 ?side6 ?side7 ?side8 A33.out).mono ?_);(case e4q => exact (Kd.S_reads' HO_273004.out).1);(case e5q => exact (Kd.S_reads' HO_273005.out).1);(case side1 => repeat (first | exact (Kd.S_reads' HO_273004.out).2.2 | (with_reducible refine Kd.C_alloc ?_ _) | (with_reducible refine Kd.C_drewN ?_ _) | (with_reducible refine Kd.C_drew ?_)));(case side2 => exact (Kd.S_reads' HO_273004.out).2.1);(case side3 => repeat (first | exact (Kd.S_reads' HO_273005.out).2.2 | (with_reducible refine Kd.C_alloc ?_ _) | (with_reducible refine Kd.C_drewN ?_ _) | (with_reducible refine Kd.C_drew ?_)));(case side4 => exact (Kd.S_reads' HO_273005.out).2.1);(case side5 => repeat (first | exact (Kd.R_reads' HO_273006.out).2.2 | (with_reducible refine Kd.C_alloc ?_ _) | (with_reducible refine Kd.C_drewN ?_ _) | (with_reducible refine Kd.C_drew ?_)));(case side6 => exact (Kd.R_reads' HO_273006.out).2.1);(case side7 => repeat (first | exact (Kd.R_reads' HO_273007.out).2.2 | (with_reducible refine Kd.C_alloc ?_ _) | (with_reducible refine Kd.C_drewN ?_ _) | (with_reducible refine Kd.C_drew ?_)));(case side8 => exact (Kd.R_reads' HO_273007.out).2.1);rintro e w91 ⟨rfl,hb⟩;refine ⟨_,rfl,?_⟩;replace HB := zs_ HB hb;(try clear hb);(try clear hb2);(try clear hk);(try clear hi)))
      go_ret
      exact ⟨zt_,zl_ HB⟩
end Go.Proofs.Ytlifdodphkimpaa.A
end
