/- A part of the proof that FnExactCheckPiece returns true at every input: plain functions, contracts and lemmas. No conditions. -/
import Derived.Test.YtdpdbegglkdgnaaDoorQCheckPiecea
set_option linter.unusedVariables false
set_option linter.unusedSimpArgs false
set_option linter.unusedSectionVars false
section
namespace Go.Proofs.YtdpdbegglkdgnaaDoor.A
open Go.RowKit Go.Proofs.YtdpdbegglkdgnaaDoorW.PrintWords
theorem node_any (a b : ByteArray) (ha : a.size ≤ 32) (hb : b.size ≤ 32) : ∃ t, spec_l03Node.v a b = some t ∧ impl_node.v a b = some t ∧ t.size = 32 := by
  have z4 : (⟨#[110, 111, 100, 101]⟩ : ByteArray).size = 4 := rfl
  obtain ⟨p, hp⟩ : ∃ p, p = (⟨#[110, 111, 100, 101]⟩ : ByteArray) ++ a := ⟨_, rfl⟩
  have zp : p.size = 4 + a.size := by rw [hp, ByteArray.size_append, z4]
  obtain ⟨X, hX⟩ : ∃ X, X = p ++ b := ⟨_, rfl⟩
  have zX : X.size = 4 + a.size + b.size := by rw [hX, ByteArray.size_append, zp]
  obtain ⟨t, h1, h2, h3⟩ := hash_one X (by omega)
  refine ⟨t, ?_, ?_, h3⟩
  · rw [spec_l03Node.v_eq, ← hp, ← hX, if_pos (by omega), if_pos (by omega), if_pos (by omega), h1, Option.bind_some]
  · rw [impl_node.v_eq, ← hp, ← hX, if_pos (by omega), if_pos (by omega), h2, Option.bind_some]
noncomputable def nodeF (a b : ByteArray) : ByteArray := (spec_l03Node.v a b).getD ⟨#[]⟩
theorem nodeF_v (a b : ByteArray) (ha : a.size ≤ 32) (hb : b.size ≤ 32) : spec_l03Node.v a b = some (nodeF a b) ∧ impl_node.v a b = some (nodeF a b) ∧ (nodeF a b).size = 32 := by
  obtain ⟨t, h1, h2, h3⟩ := node_any a b ha hb
  have e : nodeF a b = t := by unfold nodeF; rw [h1]; rfl
  rw [e]; exact ⟨h1, h2, h3⟩
noncomputable def stepF (x : ByteArray) (q : Bool × ByteArray) : ByteArray := if q.1 = true then nodeF q.2 x else nodeF x q.2
noncomputable def climbF (h : ByteArray) (l : List (Bool × ByteArray)) : ByteArray := l.foldl stepF h
theorem climb_nil (h : ByteArray) : climbF h [] = h := rfl
theorem climb_cons (h : ByteArray) (q : Bool × ByteArray) (l : List (Bool × ByteArray)) : climbF h (q :: l) = climbF (stepF h q) l := rfl
theorem step_t (x y : ByteArray) : stepF x (true, y) = nodeF y x := by unfold stepF; rw [if_pos rfl]
theorem step_f (x y : ByteArray) : stepF x (false, y) = nodeF x y := by unfold stepF; exact if_neg (show ¬ (false = true) by decide)
theorem half_l (n : Int) (hn : n ≤ 64) : ∀ (d : Nat) (k : Int), (n - k).toNat ≤ d → 1 ≤ k → (k = 1 ∨ k < n) → ∃ r, spec_l09Half.lv0 n k = some r ∧ impl_half.lv0 n k = some r ∧ 1 ≤ r ∧ (2 ≤ n → r < n)
  | 0, k, h, h1, h2 => by
    refine ⟨k, ?_, ?_, h1, fun h3 => by omega⟩
    · rw [spec_l09Half.lv0_eq, wrap_id (by omega) (by omega), if_neg (by omega)]
    · rw [impl_half.lv0_eq, wrap_id (by omega) (by omega), if_neg (by omega)]
  | d + 1, k, h, h1, h2 => by
    by_cases c : 2 * k < n
    · obtain ⟨r, e1, e2, e3, e4⟩ := half_l n hn d (k * 2) (by omega) (by omega) (by omega)
      refine ⟨r, ?_, ?_, e3, e4⟩
      · rw [spec_l09Half.lv0_eq, wrap_id (x := 2 * k) (by omega) (by omega), if_pos c, wrap_id (by omega) (by omega), e1]
      · rw [impl_half.lv0_eq, wrap_id (x := 2 * k) (by omega) (by omega), if_pos c, wrap_id (by omega) (by omega), e2]
    · by_cases hk : k ≤ 100
      · refine ⟨k, ?_, ?_, h1, fun h3 => by omega⟩
        · rw [spec_l09Half.lv0_eq, wrap_id (by omega) (by omega), if_neg c]
        · rw [impl_half.lv0_eq, wrap_id (by omega) (by omega), if_neg c]
      · omega
theorem half_one (n : Int) (hn : n ≤ 64) : ∃ r, spec_l09Half.v n = some r ∧ impl_half.v n = some r ∧ 1 ≤ r ∧ (2 ≤ n → r < n) := by
  rw [spec_l09Half.v_eq, impl_half.v_eq]
  exact half_l n hn _ 1 (Nat.le_refl _) (by omega) (Or.inl rfl)
theorem up_l (h : ByteArray) (hh : h.size = 32) : ∀ (N : Nat) (n pos : Int) (pf : List ByteArray), n.toNat ≤ N → 1 ≤ n → n ≤ 64 → 0 ≤ pos → pos < n → (∀ y ∈ pf, y.size = 32) → pf.length ≤ 4096 →
    ∃ way x ok, impl_sides.v n pos = some way ∧ way.length ≤ n.toNat ∧ spec_l09Up.v h pos n pf = some (x, ok) ∧ x.size ≤ 32 ∧ ok = decide (way.length = pf.length) ∧ (ok = true → x = climbF h (way.zip pf))
  | 0, n, pos, pf, hN, h1, h64, h0, hp, hy, hl => by omega
  | N + 1, n, pos, pf, hN, h1, h64, h0, hp, hy, hl => by
    by_cases c1 : n = 1
    · refine ⟨[], h, ((pf.length : Int) == 0), ?_, by simp, ?_, by omega, ?_, ?_⟩
      · rw [impl_sides.v_eq, if_pos c1]
      · rw [spec_l09Up.v_eq, if_pos c1]
      · rw [Bool.eq_iff_iff, beq_iff_eq, decide_eq_true_eq]
        simp only [List.length_nil]
        omega
      · intro _; rfl
    obtain ⟨k, hk1, hk2, hk3, hk4⟩ := half_one n h64
    have hk5 := hk4 (by omega)
    have hsides : ∃ b way', (if pos < k then impl_sides.v k pos else impl_sides.v (wrap64 (n - k)) (wrap64 (pos - k))) = some way' ∧ way'.length + 1 ≤ n.toNat ∧ b = decide (¬ pos < k) ∧ impl_sides.v n pos = some (way' ++ [b]) ∧
        (∀ rest : List ByteArray, (∀ y ∈ rest, y.size = 32) → rest.length ≤ 4096 → ∃ x ok, (if pos < k then spec_l09Up.v h pos k rest else spec_l09Up.v h (wrap64 (pos - k)) (wrap64 (n - k)) rest) = some (x, ok) ∧ x.size ≤ 32 ∧ ok = decide (way'.length = rest.length) ∧ (ok = true → x = climbF h (way'.zip rest))) := by
      by_cases c : pos < k
      · obtain ⟨w0, x0, ok0, e1, e2, -⟩ := up_l h hh N k pos [] (by omega) (by omega) (by omega) h0 c (fun y h => by cases h) (by simp)
        refine ⟨false, w0, by rw [if_pos c, e1], by omega, by simp [c], ?_, ?_⟩
        · rw [impl_sides.v_eq, if_neg c1, hk2, Option.bind_some, if_pos c, e1, Option.bind_some, if_pos (by omega)]
        · intro rest hr hrl
          obtain ⟨w, x, ok, f1, f2, f3, f4, f5, f6⟩ := up_l h hh N k pos rest (by omega) (by omega) (by omega) h0 c hr hrl
          rw [e1] at f1
          obtain rfl := Option.some.inj f1
          exact ⟨x, ok, by rw [if_pos c, f3], f4, f5, f6⟩
      · have w1 : wrap64 (n - k) = n - k := wrap_id (by omega) (by omega)
        have w2 : wrap64 (pos - k) = pos - k := wrap_id (by omega) (by omega)
        rw [w1, w2]
        obtain ⟨w0, x0, ok0, e1, e2, -⟩ := up_l h hh N (n - k) (pos - k) [] (by omega) (by omega) (by omega) (by omega) (by omega) (fun y h => by cases h) (by simp)
        refine ⟨true, w0, by rw [if_neg c, e1], by omega, by simp [c], ?_, ?_⟩
        · rw [impl_sides.v_eq, if_neg c1, hk2, Option.bind_some, if_neg c, w1, w2, e1, Option.bind_some, if_pos (by omega)]
        · intro rest hr hrl
          obtain ⟨w, x, ok, f1, f2, f3, f4, f5, f6⟩ := up_l h hh N (n - k) (pos - k) rest (by omega) (by omega) (by omega) (by omega) (by omega) hr hrl
          rw [e1] at f1
          obtain rfl := Option.some.inj f1
          exact ⟨x, ok, by rw [if_neg c, f3], f4, f5, f6⟩
    obtain ⟨b, way', -, g2, g3, g4, g5⟩ := hsides
    by_cases c0 : pf.length = 0
    · refine ⟨way' ++ [b], ⟨#[]⟩, false, g4, by rw [List.length_append, List.length_singleton]; exact g2, ?_, by decide, ?_, by intro h; cases h⟩
      · rw [spec_l09Up.v_eq, if_neg c1, if_pos (by omega)]
      · rw [c0, List.length_append, List.length_singleton]; simp
    · have wl : wrap64 ((pf.length : Int) - 1) = ((pf.length - 1 : Nat) : Int) := by rw [wrap_id (by omega) (by omega)]; omega
      have hlast : rdOf ByteArray.empty pf ((pf.length - 1 : Nat) : Int) = pf[pf.length - 1] := rdOf_at pf _ (by omega)
      have hls : (pf[pf.length - 1]).size = 32 := hy _ (List.getElem_mem _)
      have htk : pf.take (pf.length - 1) ++ [pf[pf.length - 1]] = pf := by
        rw [List.take_append_getElem]
        exact List.take_of_length_le (by omega)
      have hrl : (pf.take (pf.length - 1)).length = pf.length - 1 := by rw [List.length_take]; omega
      obtain ⟨x, ok, f1, f2, f3, f4⟩ := g5 (pf.take (pf.length - 1)) (fun y hm => hy y (List.mem_of_mem_take hm)) (by omega)
      obtain ⟨n1, -, n3⟩ := nodeF_v x (pf[pf.length - 1]) f2 (by omega)
      obtain ⟨m1, -, m3⟩ := nodeF_v (pf[pf.length - 1]) x (by omega) f2
      have hstep : spec_l09Up.v h pos n pf = some (stepF x (b, pf[pf.length - 1]), ok) := by
        rw [spec_l09Up.v_eq, if_neg c1, if_neg (by omega), hk1, Option.bind_some, wl, Int.toNat_natCast, if_pos (by omega), if_pos (by omega), if_pos (by omega), hlast]
        by_cases c : pos < k
        · rw [if_pos c] at f1
          rw [if_pos c, f1, Option.bind_some]
          rw [n1, Option.bind_some, g3, show decide (¬ pos < k) = false by simp [c], step_f]
        · rw [if_neg c] at f1
          rw [if_neg c, f1, Option.bind_some]
          rw [m1, Option.bind_some, g3, show decide (¬ pos < k) = true by simp [c], step_t]
      have hsz : (stepF x (b, pf[pf.length - 1])).size = 32 := by
        unfold stepF
        split
        · exact m3
        · exact n3
      refine ⟨way' ++ [b], _, ok, g4, by rw [List.length_append, List.length_singleton]; exact g2, hstep, by omega, ?_, ?_⟩
      · rw [f3, hrl, List.length_append, List.length_singleton, Bool.eq_iff_iff, decide_eq_true_eq, decide_eq_true_eq]
        omega
      · intro ho
        have he := f4 ho
        rw [f3, decide_eq_true_eq] at ho
        conv => rhs; rw [← htk]
        rw [List.zip_append ho, he]
        unfold climbF
        rw [List.foldl_append]
        rfl
theorem rdOf_b (l : List Bool) (i : Nat) (h : i < l.length) : rdOf false l i = l[i] := by
  unfold rdOf
  rw [Int.toNat_natCast, List.getD_eq_getElem?_getD, List.getElem?_eq_getElem h]
  rfl
theorem climb_step (root : ByteArray) (pf : List ByteArray) (way : List Bool) (hl2 : pf.length ≤ 4096) (i : Nat) (x : ByteArray) (b : Bool) (p : ByteArray) (hw : i < way.length) (hp : i < pf.length) (hb : way[i] = b) (he : pf[i] = p) (hs : p.size = 32) (hx : x.size = 32) :
    impl_checkPiece.lv0 root pf x way way.length i = impl_checkPiece.lv0 root pf (stepF x (b, p)) way way.length ((i + 1 : Nat) : Int) := by
  obtain ⟨-, n2, n3⟩ := nodeF_v x p (by omega) (by omega)
  obtain ⟨-, m2, m3⟩ := nodeF_v p x (by omega) (by omega)
  have wi : wrap64 ((i : Int) + 1) = ((i + 1 : Nat) : Int) := by rw [wrap_id (by omega) (by omega)]; omega
  rw [impl_checkPiece.lv0_eq, if_pos (by omega), if_pos (by omega), if_pos (by omega), rdOf_b way i hw, rdOf_at pf i hp, wi, hb, he]
  cases b
  · rw [if_neg (by decide), if_pos (by omega), n2, Option.bind_some, step_f]
  · rw [if_pos rfl, if_pos (by omega), m2, Option.bind_some, step_t]
theorem step_size (x p : ByteArray) (b : Bool) (hs : p.size = 32) (hx : x.size = 32) : (stepF x (b, p)).size = 32 := by
  cases b
  · rw [step_f]; exact (nodeF_v x p (by omega) (by omega)).2.2
  · rw [step_t]; exact (nodeF_v p x (by omega) (by omega)).2.2
theorem climb_end (root : ByteArray) (pf : List ByteArray) (way : List Bool) (x : ByteArray) : impl_checkPiece.lv0 root pf x way way.length way.length = some (if x.toList = root.toList then 0 else 11) := by
  rw [impl_checkPiece.lv0_eq, if_neg (by omega)]
  by_cases c : x.toList = root.toList
  · rw [if_pos c, if_pos c]
  · rw [if_neg c, if_neg c]
theorem zip_drop (way : List Bool) (pf : List ByteArray) (i : Nat) (hw : i < way.length) (hp : i < pf.length) : (way.zip pf).drop i = (way[i], pf[i]) :: (way.zip pf).drop (i + 1) := by
  rw [List.drop_eq_getElem_cons (by rw [List.length_zip]; omega), List.getElem_zip]
theorem climb_l (root : ByteArray) (pf : List ByteArray) (way : List Bool) (hl : way.length = pf.length) (hl2 : pf.length ≤ 4096) (hy : ∀ y ∈ pf, y.size = 32) (d : Nat) :
    ∀ (i : Nat) (x : ByteArray), way.length - i = d → i ≤ way.length → x.size = 32 → impl_checkPiece.lv0 root pf x way way.length i = some (if (climbF x ((way.zip pf).drop i)).toList = root.toList then 0 else 11) := by
  induction d with
  | zero =>
    intro i x h hi hx
    obtain rfl : i = way.length := by omega
    rw [climb_end, List.drop_eq_nil_of_le (by rw [List.length_zip]; omega), climb_nil]
  | succ d ih =>
    intro i x h hi hx
    have hw : i < way.length := by omega
    have hp : i < pf.length := by omega
    have hs : (pf[i]).size = 32 := hy _ (List.getElem_mem _)
    have h1 := climb_step root pf way hl2 i x (way[i]) (pf[i]) hw hp rfl rfl hs hx
    have h2 := ih (i + 1) (stepF x (way[i], pf[i])) (by omega) (by omega) (step_size _ _ _ hs hx)
    rw [h1, h2, zip_drop way pf i hw hp, climb_cons]
theorem leaf_one (s : ByteArray) (h : s.size ≤ 65536) : ∃ t, spec_l09Leaf.v s = some t ∧ impl_pieceRoot.v s = some t ∧ t.size = 32 := by
  have z5 : (⟨#[112, 105, 101, 99, 101]⟩ : ByteArray).size = 5 := rfl
  obtain ⟨X, hX⟩ : ∃ X, X = (⟨#[112, 105, 101, 99, 101]⟩ : ByteArray) ++ s := ⟨_, rfl⟩
  have zX : X.size = 5 + s.size := by rw [hX, ByteArray.size_append, z5]
  obtain ⟨t, h1, h2, h3⟩ := hash_one X (by omega)
  refine ⟨t, ?_, ?_, h3⟩
  · rw [spec_l09Leaf.v_eq, ← hX, if_pos (by omega), if_pos (by omega), h1, Option.bind_some]
  · rw [impl_pieceRoot.v_eq, ← hX, if_pos (by omega), h2, Option.bind_some]
theorem cp_good (a0 a1 : ByteArray) (a2 a3 : Int) (l : List ByteArray) (hl : l.length ≤ 4096) (hy : ∀ y ∈ l, y.size = 32) : ∀ (d i : Nat), l.length - i = d → i ≤ l.length → spec_CheckPiece.lv0 a0 a1 a2 a3 l i = spec_CheckPiece.lv0 a0 a1 a2 a3 l l.length
  | 0, i, h, hi => by rw [show i = l.length by omega]
  | d + 1, i, h, hi => by
    have hlt : i < l.length := by omega
    have hs : (l[i]).size = 32 := hy _ (List.getElem_mem _)
    have wi : wrap64 ((i : Int) + 1) = ((i + 1 : Nat) : Int) := by rw [wrap_id (by omega) (by omega)]; omega
    rw [spec_CheckPiece.lv0_eq, if_pos (by omega), if_pos (by omega), rdOf_at l i hlt, if_pos (by omega), wi]
    exact cp_good a0 a1 a2 a3 l hl hy d (i + 1) (by omega) (by omega)
theorem cp_bad (a0 a1 : ByteArray) (a2 a3 : Int) (l : List ByteArray) (hl : l.length ≤ 4096) : ∀ (d i : Nat), l.length - i = d → i ≤ l.length → (¬ ∀ y ∈ l.drop i, y.size = 32) → spec_CheckPiece.lv0 a0 a1 a2 a3 l i = some 1
  | 0, i, h, hi, hn => absurd (fun y hm => by rw [List.drop_eq_nil_of_le (by omega)] at hm; cases hm) hn
  | d + 1, i, h, hi, hn => by
    have hlt : i < l.length := by omega
    have wi : wrap64 ((i : Int) + 1) = ((i + 1 : Nat) : Int) := by rw [wrap_id (by omega) (by omega)]; omega
    rw [spec_CheckPiece.lv0_eq, if_pos (by omega), if_pos (by omega), rdOf_at l i hlt]
    by_cases hs : (l[i]).size = 32
    · rw [if_pos (by omega), wi]
      refine cp_bad a0 a1 a2 a3 l hl d (i + 1) (by omega) (by omega) (fun hall => hn ?_)
      rw [List.drop_eq_getElem_cons hlt]
      intro y hm
      rcases List.mem_cons.1 hm with h | h
      · rw [h]; exact hs
      · exact hall y h
    · rw [if_neg (by omega)]
theorem hashes_v (l : List ByteArray) : impl_areHashes.v l l.length = some (l.all fun s => decide (s.size = 32)) := by
  rw [impl_areHashes.v_eq, if_pos rfl, contains_impl_areHashes_1.v_eq, Option.bind_some]
  congr 1
  have hf : (fun s => (impl_areHashes_1.v s).getD false) = fun s : ByteArray => !decide (s.size = 32) := by
    funext s
    rw [impl_areHashes_1.v_eq, impl_isHash.v_eq, Option.bind_some, Option.getD_some]
    congr 1
    rw [Bool.eq_iff_iff, beq_iff_eq, decide_eq_true_eq]
    omega
  rw [hf, List.not_any_eq_all_not]
  simp only [Bool.not_not]
theorem check_one (a0 a1 : ByteArray) (a2 a3 : Int) (l : List ByteArray) : ∃ r, spec_CheckPiece.v a0 a1 a2 a3 l = some r ∧ impl_CheckPiece.v a0 a1 a2 a3 l = some r := by
  have hlong : impl_areLong.v [a0, a1] = some (decide ((a0.size : Int) > 65536) || decide ((a1.size : Int) > 65536)) := by
    rw [impl_areLong.v_eq, contains_impl_areLong_1.v_eq]
    simp only [List.any_cons, List.any_nil, Bool.or_false, impl_areLong_1.v_eq, Option.getD_some, Option.bind_some]
  by_cases c0 : (a0.size : Int) > 65536
  · exact ⟨2, by rw [spec_CheckPiece.v_eq, if_pos c0], by rw [impl_CheckPiece.v_eq, hlong, Option.bind_some, if_pos (by simp [c0])]⟩
  by_cases c1 : (a1.size : Int) > 65536
  · exact ⟨2, by rw [spec_CheckPiece.v_eq, if_neg c0, if_pos c1, spec_CheckPiece.jv0_eq, if_pos rfl], by rw [impl_CheckPiece.v_eq, hlong, Option.bind_some, if_pos (by simp [c1])]⟩
  have hlg : (decide ((a0.size : Int) > 65536) || decide ((a1.size : Int) > 65536)) = false := by rw [decide_eq_false c0, decide_eq_false c1]; rfl
  by_cases cl : (l.length : Int) > 4096
  · exact ⟨2, by rw [spec_CheckPiece.v_eq, if_neg c0, if_neg c1, spec_CheckPiece.jv0_eq, decide_eq_true cl, if_pos rfl], by rw [impl_CheckPiece.v_eq, hlong, hlg, Option.bind_some, if_neg (by decide), impl_isLongList_string.v_eq, Option.bind_some, decide_eq_true cl, if_pos rfl]⟩
  have S : spec_CheckPiece.v a0 a1 a2 a3 l = (if (a0.size : Int) = 32 then spec_CheckPiece.jv1 a0 a1 a2 a3 l (decide ((a1.size : Int) > 32)) else spec_CheckPiece.jv1 a0 a1 a2 a3 l true) := by
    rw [spec_CheckPiece.v_eq, if_neg c0, if_neg c1, spec_CheckPiece.jv0_eq, decide_eq_false cl, if_neg (by decide)]
  have I : impl_CheckPiece.v a0 a1 a2 a3 l = (if ((a0.size : Int) == 32) = true then (if (l.all fun s => decide (s.size = 32)) = true then impl_checkPiece.jv0 a0 a1 a2 a3 l (decide ((a1.size : Int) > 32)) else impl_checkPiece.jv0 a0 a1 a2 a3 l true) else impl_checkPiece.jv0 a0 a1 a2 a3 l true) := by
    rw [impl_CheckPiece.v_eq, hlong, hlg, Option.bind_some, if_neg (by decide), impl_isLongList_string.v_eq, Option.bind_some, decide_eq_false cl, if_neg (by decide), impl_checkPiece.v_eq, impl_isHash.v_eq, Option.bind_some, hashes_v, Option.bind_some]
    generalize (if ((a0.size : Int) == 32) = true then _ else _ : Option Int) = z
    cases z <;> rfl
  rw [S, I]
  by_cases cr : (a0.size : Int) = 32
  case neg =>
    exact ⟨1, by rw [if_neg cr, spec_CheckPiece.jv1_eq, if_pos rfl], by rw [if_neg (by simpa using cr), impl_checkPiece.jv0_eq, if_pos rfl]⟩
  rw [if_pos cr, if_pos (show ((a0.size : Int) == 32) = true by simpa using cr)]
  by_cases hall : ∀ y ∈ l, y.size = 32
  case neg =>
    have e1 : (l.all fun s => decide (s.size = 32)) = false := by
      rw [Bool.eq_false_iff]
      intro h
      exact hall (fun y hy => by have := List.all_eq_true.1 h y hy; simpa using this)
    refine ⟨1, ?_, by rw [e1, if_neg (by decide), impl_checkPiece.jv0_eq, if_pos rfl]⟩
    rw [spec_CheckPiece.jv1_eq]
    by_cases cp : decide ((a1.size : Int) > 32) = true
    · rw [if_pos cp]
    · rw [if_neg cp]
      exact cp_bad a0 a1 a2 a3 l (by omega) _ 0 rfl (by omega) (by rw [List.drop_zero]; exact hall)
  have e1 : (l.all fun s => decide (s.size = 32)) = true := List.all_eq_true.2 (fun y hy => by simpa using hall y hy)
  rw [e1, if_pos rfl, impl_checkPiece.jv0_eq, spec_CheckPiece.jv1_eq]
  by_cases cp : decide ((a1.size : Int) > 32) = true
  · exact ⟨1, by rw [if_pos cp], by rw [if_pos cp]⟩
  have hg0 : spec_CheckPiece.lv0 a0 a1 a2 a3 l 0 = spec_CheckPiece.lv0 a0 a1 a2 a3 l l.length := cp_good a0 a1 a2 a3 l (by omega) hall _ 0 rfl (by omega)
  obtain ⟨p, p1, p2⟩ := in_one a3 1 64
  obtain ⟨q, q1, q2⟩ := in_one a2 0 (wrap64 (a3 - 1))
  have S2 : spec_CheckPiece.lv0 a0 a1 a2 a3 l 0 = (if p = true then spec_CheckPiece.jv3 a0 a1 a2 a3 l (!q) else spec_CheckPiece.jv3 a0 a1 a2 a3 l true) := by
    rw [hg0, spec_CheckPiece.lv0_eq, if_neg (by omega), p1, Option.bind_some, q1, Option.bind_some]
  rw [if_neg cp, if_neg cp, S2, p2, Option.bind_some, q2, Option.bind_some]
  have pp : p = true → 1 ≤ a3 ∧ a3 ≤ 64 := fun h => by
    rw [spec_l01In.v_eq, h] at p1
    by_cases c : a3 ≥ 1
    · rw [if_pos c] at p1
      exact ⟨by omega, by simpa using p1⟩
    · rw [if_neg c] at p1; cases p1
  have qq : 1 ≤ a3 → a3 ≤ 64 → q = true → 0 ≤ a2 ∧ a2 < a3 := fun g1 g2 h => by
    rw [spec_l01In.v_eq, h, wrap_id (by omega) (by omega)] at q1
    by_cases c : a2 ≥ 0
    · rw [if_pos c] at q1
      have : a2 ≤ a3 - 1 := by simpa using q1
      omega
    · rw [if_neg c] at q1; cases q1
  cases p
  case false => exact ⟨4, by rw [if_neg (by decide), spec_CheckPiece.jv3_eq, if_pos rfl], by rw [if_neg (by decide)]⟩
  cases q
  case false => exact ⟨4, by rw [if_pos rfl, spec_CheckPiece.jv3_eq, if_pos (by decide)], by rw [if_pos rfl, if_neg (by decide)]⟩
  obtain ⟨b1, b2⟩ := pp rfl
  obtain ⟨b3, b4⟩ := qq b1 b2 rfl
  obtain ⟨t, t1, t2, t3⟩ := leaf_one a1 (by omega)
  obtain ⟨way, x, ok, u1, u2, u3, u4, u5, u6⟩ := up_l t t3 _ a3 a2 l (Nat.le_refl _) b1 b2 b3 b4 hall (by omega)
  rw [if_pos rfl, if_pos rfl, if_pos rfl, u1, Option.bind_some, spec_CheckPiece.jv3_eq, if_neg (by decide), t1, Option.bind_some, u3, Option.bind_some]
  by_cases cw : way.length = l.length
  · have ho : ok = true := by rw [u5]; simpa using cw
    have hx := u6 ho
    have hc := climb_l a0 l way cw (by omega) hall _ 0 t rfl (by omega) t3
    rw [List.drop_zero, ← hx] at hc
    have hc2 : impl_checkPiece.lv0 a0 l t way way.length 0 = some (if x.toList = a0.toList then 0 else 11) := hc
    refine ⟨_, ?_, by rw [if_pos (by omega), t2, Option.bind_some, hc2]⟩
    rw [ho]
    show (if true = true then _ else _) = _
    rw [if_pos rfl]
    by_cases cx : x.toList = a0.toList
    · rw [if_pos cx, if_pos cx]
    · rw [if_neg cx, if_neg cx]
  · have ho : ok = false := by rw [u5]; simpa using cw
    exact ⟨10, by rw [ho]; exact if_neg (show ¬ (false = true) by decide), by rw [if_neg (by omega)]⟩
theorem szS_l (l : List ByteArray) (hl : l.length ≤ 9223372036854775806) (hg : ∀ y ∈ l, y.size ≤ 9223372036854775807) : ∀ (d : Nat) (i x : Int), ((l.length : Int) - i).toNat = d → 0 ≤ i → 0 ≤ x → x ≤ 1048576 → ∃ t, laws_szStringS.lv0 l x i = some t
  | 0, i, x, h, h0, hx, hx2 => ⟨x, by rw [laws_szStringS.lv0_eq, if_neg (by omega)]⟩
  | d + 1, i, x, h, h0, hx, hx2 => by
    have hlt : i < (l.length : Int) := by omega
    have hm : rdOf ByteArray.empty l i ∈ l := by
      obtain ⟨j, rfl⟩ : ∃ j : Nat, i = j := ⟨i.toNat, by omega⟩
      rw [rdOf_at l j (by omega)]; exact List.getElem_mem _
    have hs := hg _ hm
    rw [laws_szStringS.lv0_eq, if_pos hlt, if_pos h0, wrap_id (x := x - _) (by omega) (by omega)]
    by_cases h2 : x - ((rdOf ByteArray.empty l i).size : Int) < 0
    · rw [if_pos h2]; exact ⟨-1, rfl⟩
    · rw [if_neg h2, wrap_id (x := i + 1) (by omega) (by omega)]
      exact szS_l l hl hg d (i + 1) _ (by omega) (by omega) (by omega) (by omega)
theorem szS_v (l : List ByteArray) (hl : l.length ≤ 9223372036854775807) (hg : ∀ y ∈ l, y.size ≤ 9223372036854775807) : ∃ t, laws_szStringS.v l 1048576 = some t ∧ (¬ t < 0 → l.length ≤ 1048576) := by
  rw [laws_szStringS.v_eq, wrap_id (by omega) (by omega)]
  by_cases h2 : (1048576 : Int) - (l.length : Int) < 0
  · rw [if_pos h2]; exact ⟨-1, rfl, fun h => by omega⟩
  · obtain ⟨t, e⟩ := szS_l l (by omega) hg _ 0 (1048576 - (l.length : Int)) rfl (by omega) (by omega) (by omega)
    rw [if_neg h2, e]; exact ⟨t, rfl, fun _ => by omega⟩
theorem toS_v (l : List ByteArray) (h : l.length ≤ 1048576) : laws_toStringS.v l = some l := by
  rw [laws_toStringS.v_eq, if_pos (by omega), if_pos (by omega)]
  have h1 := copy_loop ByteArray.empty id l (by omega) (fun acc i => laws_toStringS.lv0 l acc i) (fun acc i h0 h1 h2 => by
    show laws_toStringS.lv0 l acc i = _
    rw [laws_toStringS.lv0_eq, if_pos h1, if_pos h0, if_pos (by omega)]; rfl) (fun acc i h0 => by
    show laws_toStringS.lv0 l acc i = _
    rw [laws_toStringS.lv0_eq, if_neg (by omega)]) l.length (List.replicate ((l.length : Int) : Int).toNat ⟨#[]⟩) 0 (by omega) (by omega) (by omega) (by simp) (fun j hj => by omega)
  simpa using h1
theorem eqS_v (l : List ByteArray) (h : l.length ≤ 281474976710656) : laws_eqStringS.v l l = some true := by
  rw [laws_eqStringS.v_eq, if_pos rfl, loop_all (L := fun i => laws_eqStringS.lv0 l l i) (fun _ => true) l.length (by omega) (fun i h0 h1 => by
    show laws_eqStringS.lv0 l l i = _
    rw [laws_eqStringS.lv0_eq, if_pos h1, if_pos h0, if_pos h1, if_pos rfl]; rfl) (fun i h0 h1 => by
    show laws_eqStringS.lv0 l l i = _
    rw [laws_eqStringS.lv0_eq, if_neg (by omega)]) _ 0 rfl (by omega), (allI_iff _ _ _ _ rfl).2 (fun _ _ _ => rfl)]
theorem FnExactCheckPiece_pure (a0 : ByteArray) (a1 : ByteArray) (a2 : Int) (a3 : Int) (y4 : List ByteArray) : a0.size ≤ 9223372036854775807 → a1.size ≤ 9223372036854775807 → (Lit.int .i64 a2).wf = true → (Lit.int .i64 a3).wf = true → (y4.length ≤ 9223372036854775807 ∧ ∀ y ∈ y4, y.size ≤ 9223372036854775807) → laws_FnExactCheckPiece.v a0 a1 a2 a3 y4 = some true := by
  intro _ _ _ _ hg
  rw [laws_FnExactCheckPiece.v_eq]
  by_cases c0 : (a0.size : Int) > 1048576
  · rw [if_pos c0]
  rw [if_neg c0]
  by_cases c1 : (a1.size : Int) > 1048576
  · rw [if_pos c1]
  rw [if_neg c1]
  obtain ⟨t, e, ht⟩ := szS_v y4 hg.1 hg.2
  rw [e, Option.bind_some]
  by_cases h : t < 0
  · rw [if_pos h]
  have hlen := ht h
  obtain ⟨r, e1, e2⟩ := check_one a0 a1 a2 a3 y4
  rw [if_neg h, toS_v y4 hlen]
  simp only [Option.bind_some, e1, e2, if_true, eqS_v y4 (by omega)]
end Go.Proofs.YtdpdbegglkdgnaaDoor.A
end
