/- A part of the proof that FnExactNodeRoot returns true at every input: plain functions, contracts and lemmas. No conditions. -/
import Derived.Test.YtdpdbegglkdgnaaDoorQNodeRoota
set_option linter.unusedVariables false
set_option linter.unusedSimpArgs false
set_option linter.unusedSectionVars false
section
namespace Go.Proofs.YtdpdbegglkdgnaaDoor.A
open Go.RowKit Go.Proofs.YtdpdbegglkdgnaaDoorW.PrintWords
theorem hash_one (t : ByteArray) (h : t.size ≤ 40000000) : ∃ r, spec_l01Hash.v (bytesOf t) = some r ∧ impl_hash.v t = some r ∧ r.size = 32 := by
  obtain ⟨r, h1, h2⟩ := hash_v (bytesOf t) (by rw [bytesOf_length]; exact h)
  exact ⟨r, h1, by rw [impl_hash.v_eq, if_pos h, h1], h2⟩
theorem root_seed (n : Int) : ∃ t, spec_l12Seed.v n = some t ∧ impl_nodeSeed.v n = some t ∧ t.size = 32 := by
  have h1 : (strOfNums [n % 256]).size = 1 := by rw [strOf_size]; rfl
  have h9 : (⟨#[110, 111, 100, 101, 32, 115, 101, 101, 100]⟩ : ByteArray).size = 9 := rfl
  obtain ⟨s, hs⟩ : ∃ s, s = (⟨#[110, 111, 100, 101, 32, 115, 101, 101, 100]⟩ : ByteArray) ++ strOfNums [n % 256] := ⟨_, rfl⟩
  have hz : s.size = 10 := by rw [hs, ByteArray.size_append, h1, h9]
  obtain ⟨t, ht, hi, h32⟩ := hash_one s (by omega)
  refine ⟨t, ?_, ?_, h32⟩
  · rw [spec_l12Seed.v_eq, Option.bind_some, ← hs, h1, hz, if_pos (by decide), if_pos (by decide), ht, Option.bind_some]
  · rw [impl_nodeSeed.v_eq, impl_number1, Option.bind_some, be1, ← hs, h1, if_pos (by decide), hi, Option.bind_some]
theorem ba_assoc (a b c : ByteArray) : (a ++ b) ++ c = a ++ (b ++ c) := by
  apply ByteArray.ext
  simp only [ByteArray.data_append, Array.append_assoc]
theorem secret_one (s : ByteArray) (hs : s.size ≤ 1000) (a b c : Int) : ∃ t, spec_l03Secret.v s a b c = some t ∧ impl_secret.v s a b c = some t ∧ t.size = 32 := by
  have z1 : ∀ n : Int, (strOfNums (beL n 1)).size = 1 := fun n => by rw [strOf_size, beL_len]
  have z6 : (⟨#[115, 101, 99, 114, 101, 116]⟩ : ByteArray).size = 6 := rfl
  obtain ⟨p, hp⟩ : ∃ p, p = (⟨#[115, 101, 99, 114, 101, 116]⟩ : ByteArray) ++ s := ⟨_, rfl⟩
  have zp : p.size = 6 + s.size := by rw [hp, ByteArray.size_append, z6]
  obtain ⟨X, hX⟩ : ∃ X, X = ((p ++ strOfNums (beL a 1)) ++ strOfNums (beL b 1)) ++ strOfNums (beL c 1) := ⟨_, rfl⟩
  have x1 : (p ++ strOfNums (beL a 1)).size = 7 + s.size := by rw [ByteArray.size_append, z1, zp]; omega
  have x2 : ((p ++ strOfNums (beL a 1)) ++ strOfNums (beL b 1)).size = 8 + s.size := by rw [ByteArray.size_append, z1, x1]; omega
  have x3 : X.size = 9 + s.size := by rw [hX, ByteArray.size_append, z1, x2]; omega
  have hX2 : p ++ strOfNums [a % 256, b % 256, c % 256] = X := by
    rw [hX, be1, be1, be1, show ([a % 256, b % 256, c % 256] : List Int) = [a % 256] ++ ([b % 256] ++ [c % 256]) from rfl, str_append, str_append, ba_assoc, ba_assoc]
  have z3 : (strOfNums [a % 256, b % 256, c % 256]).size = 3 := by rw [strOf_size]; rfl
  obtain ⟨t, h1, h2, h3⟩ := hash_one X (by omega)
  refine ⟨t, ?_, ?_, h3⟩
  · rw [spec_l03Secret.v_eq, ← hp, if_pos (by omega), Option.bind_some, zp, z3, if_pos (by omega), hX2, x3, if_pos (by omega), h1, Option.bind_some]
  · rw [impl_secret.v_eq, ← hp, if_pos (by omega), impl_number1, Option.bind_some, zp, z1, if_pos (by omega), impl_number1, Option.bind_some, x1, z1, if_pos (by omega), impl_number1, Option.bind_some, x2, z1, if_pos (by omega), ← hX, h2, Option.bind_some]
theorem key_l (s : ByteArray) (hs : s.size ≤ 1000) (a : Int) : ∀ (d : Nat) (i : Int) (x : ByteArray), (32 - i).toNat = d → 0 ≤ i → i ≤ 32 → (x.size : Int) = 3 + 64 * i → ∃ t, spec_l03Key.lv0 s a (bytesOf x) i = some t ∧ impl_oneTimeKey.lv0 s a x i = some t ∧ t.size = 32
  | 0, i, x, h, h0, h1, hx => by
    obtain ⟨t, e1, e2, e3⟩ := hash_one x (by omega)
    exact ⟨t, by rw [spec_l03Key.lv0_eq, if_neg (by omega), e1, Option.bind_some], by rw [impl_oneTimeKey.lv0_eq, if_neg (by omega), e2, Option.bind_some], e3⟩
  | d + 1, i, x, h, h0, h1, hx => by
    obtain ⟨s0, a1, a2, a3⟩ := secret_one s hs a i 0
    obtain ⟨k0, b1, b2, b3⟩ := hash_one s0 (by omega)
    obtain ⟨s1, c1, c2, c3⟩ := secret_one s hs a i 1
    obtain ⟨k1, d1, d2, d3⟩ := hash_one s1 (by omega)
    have hz : (k0 ++ k1).size = 64 := by rw [ByteArray.size_append, b3, d3]
    obtain ⟨t, e1, e2, e3⟩ := key_l s hs a d (i + 1) (x ++ (k0 ++ k1)) (by omega) (by omega) (by omega) (by rw [ByteArray.size_append, hz]; omega)
    have hb : (bytesOf x ++ bytesOf k0) ++ bytesOf k1 = bytesOf (x ++ (k0 ++ k1)) := by rw [bytes_append, bytes_append, List.append_assoc]
    refine ⟨t, ?_, ?_, e3⟩
    · rw [spec_l03Key.lv0_eq, if_pos (by omega), spec_l03Key.lv1_eq, if_pos (by decide), a1, Option.bind_some, if_pos (by omega), b1, Option.bind_some, if_pos (by rw [bytesOf_length]; omega), wrap_id (x := 0 + 1) (by omega) (by omega),
        spec_l03Key.lv1_eq, if_pos (by decide), show (0 + 1 : Int) = 1 from rfl, c1, Option.bind_some, if_pos (by omega), d1, Option.bind_some, if_pos (by rw [List.length_append, bytesOf_length, bytesOf_length]; omega), wrap_id (x := 1 + 1) (by omega) (by omega),
        spec_l03Key.lv1_eq, if_neg (by decide), wrap_id (x := i + 1) (by omega) (by omega), hb, e1]
    · rw [impl_oneTimeKey.lv0_eq, if_pos (by omega), a2, Option.bind_some, b2, Option.bind_some, c2, Option.bind_some, d2, Option.bind_some, b3, d3, if_pos (by decide), hz, if_pos (by omega), wrap_id (x := i + 1) (by omega) (by omega), e2]
theorem onekey_one (s : ByteArray) (hs : s.size ≤ 1000) (a : Int) : ∃ t, spec_l03Key.v s a = some t ∧ impl_oneTimeKey.v s a = some t ∧ t.size = 32 := by
  obtain ⟨t, h1, h2, h3⟩ := key_l s hs a _ 0 ⟨#[107, 101, 121]⟩ rfl (by omega) (by omega) (by decide)
  refine ⟨t, ?_, ?_, h3⟩
  · rw [spec_l03Key.v_eq, ← h1, show bytesOf (⟨#[107, 101, 121]⟩ : ByteArray) = [107, 101, 121] by decide]
  · rw [impl_oneTimeKey.v_eq, h2]
theorem keys_l (s : ByteArray) (hs : s.size ≤ 1000) : ∀ (d : Nat) (i : Int) (l : List ByteArray), (8 - i).toNat = d → 0 ≤ i → i ≤ 8 → (l.length : Int) = i → (∀ y ∈ l, y.size = 32) → ∃ r, spec_l03Keys.lv0 s l i = some r ∧ impl_keys.lv0 s l i = some r ∧ r.length = 8 ∧ ∀ y ∈ r, y.size = 32
  | 0, i, l, h, h0, h1, hl, hy => ⟨l, by rw [spec_l03Keys.lv0_eq, if_neg (by omega)], by rw [impl_keys.lv0_eq, if_neg (by omega)], by omega, hy⟩
  | d + 1, i, l, h, h0, h1, hl, hy => by
    obtain ⟨t, e1, e2, e3⟩ := onekey_one s hs i
    obtain ⟨r, f1, f2, f3, f4⟩ := keys_l s hs d (i + 1) (l ++ [t]) (by omega) (by omega) (by omega) (by simp; omega) (fun y hm => by
      rcases List.mem_append.1 hm with h | h
      · exact hy y h
      · rw [List.mem_singleton.1 h]; exact e3)
    refine ⟨r, ?_, ?_, f3, f4⟩
    · rw [spec_l03Keys.lv0_eq, if_pos (by omega), e1, Option.bind_some, if_pos (by omega), wrap_id (x := i + 1) (by omega) (by omega), f1]
    · rw [impl_keys.lv0_eq, if_pos (by omega), e2, Option.bind_some, if_pos (by omega), wrap_id (x := i + 1) (by omega) (by omega), f2]
theorem node_one (a b : ByteArray) (ha : a.size = 32) (hb : b.size = 32) : ∃ t, spec_l03Node.v a b = some t ∧ impl_node.v a b = some t ∧ t.size = 32 := by
  have z4 : (⟨#[110, 111, 100, 101]⟩ : ByteArray).size = 4 := rfl
  obtain ⟨p, hp⟩ : ∃ p, p = (⟨#[110, 111, 100, 101]⟩ : ByteArray) ++ a := ⟨_, rfl⟩
  have zp : p.size = 36 := by rw [hp, ByteArray.size_append, z4, ha]
  obtain ⟨X, hX⟩ : ∃ X, X = p ++ b := ⟨_, rfl⟩
  have zX : X.size = 68 := by rw [hX, ByteArray.size_append, zp, hb]
  obtain ⟨t, h1, h2, h3⟩ := hash_one X (by omega)
  refine ⟨t, ?_, ?_, h3⟩
  · rw [spec_l03Node.v_eq, ← hp, ← hX, ha, if_pos (by decide), zp, hb, if_pos (by decide), zX, if_pos (by decide), h1, Option.bind_some]
  · rw [impl_node.v_eq, ← hp, ← hX, ha, if_pos (by decide), zp, hb, if_pos (by decide), h2, Option.bind_some]
theorem level_l (l : List ByteArray) (m : Nat) (hm : l.length = 2 * m) (hm2 : m ≤ 1000) (hy : ∀ y ∈ l, y.size = 32) : ∀ (d j : Nat) (acc : List ByteArray), m - j = d → j ≤ m → acc.length = j → (∀ y ∈ acc, y.size = 32) → ∃ r, spec_l03Level.lv0 l acc ((2 * j : Nat) : Int) = some r ∧ impl_above.lv0 l acc ((2 * j : Nat) : Int) = some r ∧ r.length = m ∧ ∀ y ∈ r, y.size = 32
  | 0, j, acc, h, h0, ha, hc => ⟨acc, by rw [spec_l03Level.lv0_eq, if_neg (by omega)], by rw [impl_above.lv0_eq, if_neg (by omega)], by omega, hc⟩
  | d + 1, j, acc, h, h0, ha, hc => by
    have g1 : rdOf ByteArray.empty l ((2 * j : Nat) : Int) ∈ l := by rw [rdOf_at l (2 * j) (by omega)]; exact List.getElem_mem _
    have g2 : rdOf ByteArray.empty l (((2 * j + 1 : Nat)) : Int) ∈ l := by rw [rdOf_at l (2 * j + 1) (by omega)]; exact List.getElem_mem _
    obtain ⟨t, e1, e2, e3⟩ := node_one _ _ (hy _ g1) (hy _ g2)
    obtain ⟨r, f1, f2, f3, f4⟩ := level_l l m hm hm2 hy d (j + 1) (acc ++ [t]) (by omega) (by omega) (by simp; omega) (fun y hm => by
      rcases List.mem_append.1 hm with h | h
      · exact hc y h
      · rw [List.mem_singleton.1 h]; exact e3)
    have w1 : wrap64 (((2 * j : Nat) : Int) + 1) = ((2 * j + 1 : Nat) : Int) := by rw [wrap_id (by omega) (by omega)]; omega
    have w2 : wrap64 (((2 * j : Nat) : Int) + 2) = ((2 * (j + 1) : Nat) : Int) := by rw [wrap_id (by omega) (by omega)]; omega
    refine ⟨r, ?_, ?_, f3, f4⟩
    · rw [spec_l03Level.lv0_eq, w1, w2, if_pos (by omega), if_pos (by omega), if_pos (by omega), if_pos (by omega), e1, Option.bind_some, if_pos (by omega), f1]
    · rw [impl_above.lv0_eq, w1, w2, if_pos (by omega), if_pos (by omega), if_pos (by omega), if_pos (by omega), e2, Option.bind_some, if_pos (by omega), f2]
theorem root_l : ∀ (k : Nat) (l : List ByteArray), k ≤ 9 → l.length = 2 ^ k → (∀ y ∈ l, y.size = 32) → ∃ t, spec_l03Root.lv0 l = some t ∧ impl_chainRoot.lv0 l = some t
  | 0, l, hk, hl, hy => by
    have hl1 : l.length = 1 := by simpa using hl
    exact ⟨_, by rw [spec_l03Root.lv0_eq, if_neg (by omega), if_pos (by omega)], by rw [impl_chainRoot.lv0_eq, if_neg (by omega), if_pos (by omega)]⟩
  | k + 1, l, hk, hl, hy => by
    have hp : 2 ^ k ≤ 2 ^ 9 := Nat.pow_le_pow_right (by decide) (by omega)
    have h0 : 0 < 2 ^ k := Nat.pow_pos (by decide)
    have hl2 : l.length = 2 * 2 ^ k := by rw [hl, Nat.pow_succ, Nat.mul_comm]
    obtain ⟨r, e1, e2, e3, e4⟩ := level_l l (2 ^ k) hl2 (by omega) hy _ 0 [] rfl (by omega) rfl (fun y h => by cases h)
    obtain ⟨t, f1, f2⟩ := root_l k r (by omega) e3 e4
    refine ⟨t, ?_, ?_⟩
    · rw [spec_l03Root.lv0_eq, if_pos (by omega), spec_l03Level.v_eq, show (0 : Int) = ((2 * 0 : Nat) : Int) from rfl, e1, Option.bind_some, f1]
    · rw [impl_chainRoot.lv0_eq, if_pos (by omega), impl_above.v_eq, show (0 : Int) = ((2 * 0 : Nat) : Int) from rfl, e2, Option.bind_some, f2]
theorem FnExactNodeRoot_pure (a0 : Int) : (Lit.int .i64 a0).wf = true → laws_FnExactNodeRoot.v a0 = some true := by
  intro _
  obtain ⟨b, h1, h2⟩ := in_one a0 0 6
  obtain ⟨s, s1, s2, s3⟩ := root_seed a0
  obtain ⟨l, k1, k2, k3, k4⟩ := keys_l s (by omega) _ 0 [] rfl (by omega) (by omega) rfl (fun y h => by cases h)
  obtain ⟨t, r1, r2⟩ := root_l 3 l (by decide) k3 k4
  rw [laws_FnExactNodeRoot.v_eq, spec_NodeRoot.v_eq, impl_NodeRoot.v_eq]
  simp only [h1, h2, s1, s2, spec_l03Keys.v_eq, impl_chainRoot.v_eq, impl_keys.v_eq, k1, k2, spec_l03Root.v_eq, r1, r2, Option.bind_some]
  cases b <;> simp
end Go.Proofs.YtdpdbegglkdgnaaDoor.A
end
