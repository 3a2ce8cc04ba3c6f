/- A part of the proof that FnExactStableOK returns true at every input: plain functions, contracts and lemmas. No conditions. -/
import Derived.Test.YtdpdbegglkdgnaaDoorQStableOKa
set_option linter.unusedVariables false
set_option linter.unusedSimpArgs false
set_option linter.unusedSectionVars false
section
namespace Go.Proofs.YtdpdbegglkdgnaaDoorW.PrintWords
open Go.RowKit
theorem wrap_id {x : Int} (h0 : -9223372036854775808 ≤ x) (h1 : x ≤ 9223372036854775807) : wrap64 x = x := by unfold wrap64; omega
/-- p at d places from i on. -/
def allB (p : Int → Bool) : Nat → Int → Bool
  | 0, _ => true
  | d + 1, i => p i && allB p d (i + 1)
def allI (p : Int → Bool) (i n : Int) : Bool := allB p (n - i).toNat i
theorem allI_step {p : Int → Bool} {i n : Int} (h : i < n) : allI p i n = (p i && allI p (i + 1) n) := by
  unfold allI
  obtain ⟨d, hd⟩ : ∃ d : Nat, (n - i).toNat = d + 1 := ⟨(n - i).toNat - 1, by omega⟩
  rw [hd, show (n - (i + 1)).toNat = d by omega]
  rfl
theorem allI_end {p : Int → Bool} {i n : Int} (h : n ≤ i) : allI p i n = true := by
  unfold allI
  rw [show (n - i).toNat = 0 by omega]
  rfl
theorem allI_iff (p : Int → Bool) (n : Int) : ∀ (d : Nat) (i : Int), (n - i).toNat = d → (allI p i n = true ↔ ∀ j, i ≤ j → j < n → p j = true)
  | 0, i, h => by
    rw [allI_end (by omega)]
    exact ⟨fun _ j h1 h2 => by omega, fun _ => rfl⟩
  | d + 1, i, h => by
    rw [allI_step (by omega), Bool.and_eq_true, allI_iff p n d (i + 1) (by omega)]
    refine ⟨fun ⟨h1, h2⟩ j h3 h4 => ?_, fun h1 => ⟨h1 i (by omega) (by omega), fun j h3 h4 => h1 j (by omega) h4⟩⟩
    by_cases e : j = i
    · rw [e]; exact h1
    · exact h2 j (by omega) h4
/-- A loop that asks p at each place. -/
theorem loop_all {L : Int → Option Bool} (p : Int → Bool) (n : Int) (hn : n ≤ 9223372036854775807) (hL : ∀ i, 0 ≤ i → i < n → L i = if p i = true then L (wrap64 (i + 1)) else some false) (hE : ∀ i, 0 ≤ i → n ≤ i → L i = some true) :
    ∀ (d : Nat) (i : Int), (n - i).toNat = d → 0 ≤ i → L i = some (allI p i n)
  | 0, i, h, h0 => by rw [hE i h0 (by omega), allI_end (by omega)]
  | d + 1, i, h, h0 => by
    rw [hL i h0 (by omega), allI_step (by omega), wrap_id (by omega) (by omega), loop_all p n hn hL hE d (i + 1) (by omega) (by omega)]
    cases p i <;> simp
theorem strOf_size (l : List Int) : (strOfNums l).size = l.length := by
  show (strOfNums l).data.size = _
  simp [strOfNums]
theorem copy_loop {α β : Type} (d : α) (g : α → β) (l : List α) (hn : l.length ≤ 9223372036854775806) (L : List β → Int → Option (List β))
    (hL : ∀ acc i, 0 ≤ i → i < (l.length : Int) → acc.length = l.length → L acc i = L (acc.set i.toNat (g (l.getD i.toNat d))) (wrap64 (i + 1))) (hE : ∀ acc i, (l.length : Int) ≤ i → L acc i = some acc) :
    ∀ (n : Nat) (acc : List β) (i : Int), ((l.length : Int) - i).toNat = n → 0 ≤ i → i ≤ l.length → acc.length = l.length → (∀ j : Nat, j < i.toNat → acc[j]? = (l.map g)[j]?) → L acc i = some (l.map g)
  | 0, acc, i, h, h0, h1, ha, hj => by
    rw [hE acc i (by omega)]
    congr 1
    apply List.ext_getElem?
    intro j
    by_cases hjl : j < l.length
    · exact hj j (by omega)
    · rw [List.getElem?_eq_none (by omega), List.getElem?_eq_none (by simp; omega)]
  | n + 1, acc, i, h, h0, h1, ha, hj => by
    have hlt : i < (l.length : Int) := by omega
    rw [hL acc i h0 hlt ha, wrap_id (by omega) (by omega)]
    refine copy_loop d g l hn L hL hE n _ (i + 1) (by omega) (by omega) (by omega) (by simp [ha]) (fun j hj2 => ?_)
    by_cases e : j = i.toNat
    · subst e
      rw [List.getElem?_set_self (by omega), List.getElem?_map, List.getElem?_eq_getElem (by omega : i.toNat < l.length)]
      simp [List.getD, List.getElem?_eq_getElem (by omega : i.toNat < l.length)]
    · rw [List.getElem?_set_ne (by omega)]
      exact hj j (by omega)
end Go.Proofs.YtdpdbegglkdgnaaDoorW.PrintWords
end

section
namespace Go.Proofs.YtdpdbegglkdgnaaDoor.A
open Go.RowKit Go.Proofs.YtdpdbegglkdgnaaDoorW.PrintWords
def turnF (x n : Int) : Int := Go.bits .or .u32 (shr .u32 x n) (shl .u32 x (32 - n))
theorem u64_small (n : Int) (h0 : 0 ≤ n) (h1 : n < 18446744073709551616) : IntKind.u64.wrap n = n := by
  unfold IntKind.wrap
  simp [IntKind.bits, IntKind.signed]
  omega
theorem turn_v (x n : Int) (h0 : 0 ≤ n) (h1 : n ≤ 32) : spec_l01Turn.v x n = some (turnF x n) := by
  rw [spec_l01Turn.v_eq, if_pos h0, u64_small (32 - n) (by omega) (by omega), if_pos (by omega)]
  rfl
theorem block_l3 (v : List Int) (hv : v.length = 8) : ∀ (k i : Nat) (h : List Int), 8 - i = k → i ≤ 8 → h.length = 8 → ∃ r, spec_l01Block.lv3 h v i = some r ∧ r.length = 8
  | 0, i, h, hk, hi, hh => by
    rw [spec_l01Block.lv3_eq, if_neg (by omega)]
    exact ⟨h, rfl, hh⟩
  | k + 1, i, h, hk, hi, hh => by
    obtain ⟨r, e, hr⟩ := block_l3 v hv k (i + 1) (h.set (i : Int).toNat (((rd h i) + (rd v i)) % 4294967296)) (by omega) (by omega) (by rw [List.length_set]; exact hh)
    have w : wrap64 ((i : Int) + 1) = ((i + 1 : Nat) : Int) := by rw [wrap_id (by omega) (by omega)]; omega
    rw [spec_l01Block.lv3_eq, w, e]
    clear w
    rw [if_pos (by omega), if_pos (by omega), if_pos (by omega), if_pos (by omega)]
    exact ⟨r, rfl, hr⟩
theorem block_l2 (h ks ws : List Int) (hh : h.length = 8) (hk : ks.length = 64) (hw : ws.length = 64) : ∀ (k i : Nat) (v : List Int), 64 - i = k → i ≤ 64 → v.length = 8 → ∃ r, spec_l01Block.lv2 h ks ws v i = some r ∧ r.length = 8
  | 0, i, v, hi0, hi, hv => by
    rw [spec_l01Block.lv2_eq, if_neg (by omega)]
    exact block_l3 v hv 8 0 h rfl (by omega) hh
  | k + 1, i, v, hi0, hi, hv => by
    have ih := fun v' => block_l2 h ks ws hh hk hw k (i + 1) v' (by omega) (by omega)
    have w : wrap64 ((i : Int) + 1) = ((i + 1 : Nat) : Int) := by rw [wrap_id (by omega) (by omega)]; omega
    rw [spec_l01Block.lv2_eq, w]
    clear w
    have c1 : (i : Int) < 64 := by omega
    have c2 : (4 : Int) < (v.length : Int) := by omega
    have c3 : (0 : Int) < (v.length : Int) := by omega
    have c4 : (7 : Int) < (v.length : Int) := by omega
    have c5 : (5 : Int) < (v.length : Int) := by omega
    have c6 : (6 : Int) < (v.length : Int) := by omega
    have c7 : (0 : Int) ≤ (i : Int) := by omega
    have c8 : (i : Int) < (ks.length : Int) := by omega
    have c9 : (i : Int) < (ws.length : Int) := by omega
    have d1 : (1 : Int) < (v.length : Int) := by omega
    have d2 : (2 : Int) < (v.length : Int) := by omega
    have d3 : (3 : Int) < (v.length : Int) := by omega
    have t1 : ∀ x, spec_l01Turn.v x 6 = some (turnF x 6) := fun x => turn_v x 6 (by omega) (by omega)
    have t2 : ∀ x, spec_l01Turn.v x 11 = some (turnF x 11) := fun x => turn_v x 11 (by omega) (by omega)
    have t3 : ∀ x, spec_l01Turn.v x 25 = some (turnF x 25) := fun x => turn_v x 25 (by omega) (by omega)
    have t4 : ∀ x, spec_l01Turn.v x 2 = some (turnF x 2) := fun x => turn_v x 2 (by omega) (by omega)
    have t5 : ∀ x, spec_l01Turn.v x 13 = some (turnF x 13) := fun x => turn_v x 13 (by omega) (by omega)
    have t6 : ∀ x, spec_l01Turn.v x 22 = some (turnF x 22) := fun x => turn_v x 22 (by omega) (by omega)
    simp only [if_pos c1, if_pos c2, if_pos c3, if_pos c4, if_pos c5, if_pos c6, if_pos c7, if_pos c8, if_pos c9, if_pos d1, if_pos d2, if_pos d3, t1, t2, t3, t4, t5, t6, Option.bind_some]
    exact ih _ rfl
theorem block_l1 (h ks : List Int) (hh : h.length = 8) (hk : ks.length = 64) : ∀ (k i : Nat) (ws : List Int), 64 - i = k → 16 ≤ i → i ≤ 64 → ws.length = 64 → ∃ r, spec_l01Block.lv1 h ks ws i = some r ∧ r.length = 8
  | 0, i, ws, hi0, h16, hi, hw => by
    rw [spec_l01Block.lv1_eq, if_neg (by omega), Option.bind_some, if_pos (by simp; omega)]
    exact block_l2 h ks ws hh hk hw 64 0 _ rfl (by omega) (by simpa using hh)
  | k + 1, i, ws, hi0, h16, hi, hw => by
    have ih := fun ws' => block_l1 h ks hh hk k (i + 1) ws' (by omega) (by omega) (by omega)
    have c1 : (i : Int) < 64 := by omega
    have c2 : (0 : Int) ≤ (i : Int) - 15 := by omega
    have c3 : (i : Int) - 15 < (ws.length : Int) := by omega
    have c4 : (0 : Int) ≤ (i : Int) - 2 := by omega
    have c5 : (i : Int) - 2 < (ws.length : Int) := by omega
    have c6 : (0 : Int) ≤ (i : Int) - 16 := by omega
    have c7 : (i : Int) - 16 < (ws.length : Int) := by omega
    have c8 : (0 : Int) ≤ (i : Int) - 7 := by omega
    have c9 : (i : Int) - 7 < (ws.length : Int) := by omega
    have d1 : (0 : Int) ≤ (i : Int) := by omega
    have d2 : (i : Int) < (ws.length : Int) := by omega
    have t1 : ∀ x, spec_l01Turn.v x 7 = some (turnF x 7) := fun x => turn_v x 7 (by omega) (by omega)
    have t2 : ∀ x, spec_l01Turn.v x 18 = some (turnF x 18) := fun x => turn_v x 18 (by omega) (by omega)
    have t3 : ∀ x, spec_l01Turn.v x 17 = some (turnF x 17) := fun x => turn_v x 17 (by omega) (by omega)
    have t4 : ∀ x, spec_l01Turn.v x 19 = some (turnF x 19) := fun x => turn_v x 19 (by omega) (by omega)
    have w : wrap64 ((i : Int) + 1) = ((i + 1 : Nat) : Int) := by rw [wrap_id (by omega) (by omega)]; omega
    have w1 : wrap64 ((i : Int) - 15) = (i : Int) - 15 := wrap_id (by omega) (by omega)
    have w2 : wrap64 ((i : Int) - 2) = (i : Int) - 2 := wrap_id (by omega) (by omega)
    have w3 : wrap64 ((i : Int) - 16) = (i : Int) - 16 := wrap_id (by omega) (by omega)
    have w4 : wrap64 ((i : Int) - 7) = (i : Int) - 7 := wrap_id (by omega) (by omega)
    rw [spec_l01Block.lv1_eq]
    simp only [w, w1, w2, w3, w4, if_pos c1, if_pos c2, if_pos c3, if_pos c4, if_pos c5, if_pos c6, if_pos c7, if_pos c8, if_pos c9, if_pos d1, if_pos d2, t1, t2, t3, t4, Option.bind_some]
    clear w w1 w2 w3 w4
    exact ih _ (by rw [List.length_set]; exact hw)
theorem block_l0 (h b ks : List Int) (hh : h.length = 8) (hb : b.length = 64) (hk : ks.length = 64) : ∀ (k i : Nat) (ws : List Int), 16 - i = k → i ≤ 16 → ws.length = 64 → ∃ r, spec_l01Block.lv0 h b ks ws i = some r ∧ r.length = 8
  | 0, i, ws, hi0, hi, hw => by
    rw [spec_l01Block.lv0_eq, if_neg (by omega)]
    exact block_l1 h ks hh hk 48 16 ws rfl (by omega) (by omega) hw
  | k + 1, i, ws, hi0, hi, hw => by
    have ih := fun ws' => block_l0 h b ks hh hb hk k (i + 1) ws' (by omega) (by omega)
    have c1 : (i : Int) < 16 := by omega
    have c2 : (0 : Int) ≤ 4 * (i : Int) := by omega
    have c3 : 4 * (i : Int) < (b.length : Int) := by omega
    have c4 : (0 : Int) ≤ 4 * (i : Int) + 1 := by omega
    have c5 : 4 * (i : Int) + 1 < (b.length : Int) := by omega
    have c6 : (0 : Int) ≤ 4 * (i : Int) + 2 := by omega
    have c7 : 4 * (i : Int) + 2 < (b.length : Int) := by omega
    have c8 : (0 : Int) ≤ 4 * (i : Int) + 3 := by omega
    have c9 : 4 * (i : Int) + 3 < (b.length : Int) := by omega
    have d1 : (0 : Int) ≤ (i : Int) := by omega
    have d2 : (i : Int) < (ws.length : Int) := by omega
    have w : wrap64 ((i : Int) + 1) = ((i + 1 : Nat) : Int) := by rw [wrap_id (by omega) (by omega)]; omega
    have w0 : wrap64 (4 * (i : Int)) = 4 * (i : Int) := wrap_id (by omega) (by omega)
    have w1 : wrap64 (4 * (i : Int) + 1) = 4 * (i : Int) + 1 := wrap_id (by omega) (by omega)
    have w2 : wrap64 (4 * (i : Int) + 2) = 4 * (i : Int) + 2 := wrap_id (by omega) (by omega)
    have w3 : wrap64 (4 * (i : Int) + 3) = 4 * (i : Int) + 3 := wrap_id (by omega) (by omega)
    rw [spec_l01Block.lv0_eq]
    simp only [w, w0, w1, w2, w3, if_pos c1, if_pos c2, if_pos c3, if_pos c4, if_pos c5, if_pos c6, if_pos c7, if_pos c8, if_pos c9, if_pos d1, if_pos d2]
    clear w w0 w1 w2 w3
    exact ih _ (by rw [List.length_set]; exact hw)
theorem block_v (h b ks : List Int) (hh : h.length = 8) (hb : b.length = 64) (hk : ks.length = 64) : ∃ r, spec_l01Block.v h b ks = some r ∧ r.length = 8 := by
  rw [spec_l01Block.v_eq, if_pos ⟨hh, hb, hk⟩, if_pos (by omega)]
  exact block_l0 h b ks hh hb hk 16 0 _ rfl (by omega) (by simp)
theorem hash_l3 (h : List Int) (hh : h.length = 8) : ∀ (k i : Nat) (out : List Int), 8 - i = k → i ≤ 8 → out.length = 4 * i → ∃ t, spec_l01Hash.lv3 h out i = some t ∧ t.size = 32
  | 0, i, out, hi0, hi, ho => by
    rw [spec_l01Hash.lv3_eq, if_neg (by omega)]
    exact ⟨_, rfl, by rw [strOf_size]; omega⟩
  | k + 1, i, out, hi0, hi, ho => by
    have ih := fun out' => hash_l3 h hh k (i + 1) out' (by omega) (by omega)
    have w : wrap64 ((i : Int) + 1) = ((i + 1 : Nat) : Int) := by rw [wrap_id (by omega) (by omega)]; omega
    rw [spec_l01Hash.lv3_eq, w]
    clear w
    rw [if_pos (by omega), if_pos (by omega), if_pos (by omega), Option.bind_some, if_pos (by simp; omega)]
    exact ih _ (by simp; omega)
theorem hash_l2 (all ks : List Int) (hk : ks.length = 64) (n : Nat) (ha : all.length = 64 * n) (hn : n ≤ 1000000) : ∀ (k i : Nat) (h : List Int), n - i = k → i ≤ n → h.length = 8 → ∃ t, spec_l01Hash.lv2 h all ks ((64 * i : Nat) : Int) = some t ∧ t.size = 32
  | 0, i, h, hi0, hi, hh => by
    rw [spec_l01Hash.lv2_eq, if_neg (by omega)]
    exact hash_l3 h hh 8 0 [] rfl (by omega) rfl
  | k + 1, i, h, hi0, hi, hh => by
    have ih := fun h' => hash_l2 all ks hk n ha hn k (i + 1) h' (by omega) (by omega)
    obtain ⟨r, e, hr⟩ := block_v h ((all.take (64 * (i + 1))).drop (64 * i)) ks hh (by rw [List.length_drop, List.length_take]; omega) hk
    have w : wrap64 (((64 * i : Nat) : Int) + 64) = ((64 * (i + 1) : Nat) : Int) := by rw [wrap_id (by omega) (by omega)]; omega
    rw [spec_l01Hash.lv2_eq, w]
    clear w
    simp only [Int.toNat_natCast]
    rw [if_pos (by omega), if_pos (by omega), if_pos (by omega), if_pos (by omega), e, Option.bind_some]
    exact ih _ hr
theorem hash_l1 (x h : List Int) (hh : h.length = 8) : ∀ (k : Nat) (all : List Int), k ≤ 8 → all.length + k ≤ 60000000 → (all.length + k) % 64 = 0 → ∃ t, spec_l01Hash.lv1 x h all ((k : Int) - 1) = some t ∧ t.size = 32
  | 0, all, hk, ha, hm => by
    rw [spec_l01Hash.lv1_eq, if_neg (by omega), spec_l01Consts.v_eq, Option.bind_some]
    exact hash_l2 all _ rfl (all.length / 64) (by omega) (by omega) (all.length / 64) 0 h rfl (by omega) hh
  | k + 1, all, hk, ha, hm => by
    have ih := fun a => hash_l1 x h hh k (all ++ [a]) (by omega) (by simp; omega) (by simp; omega)
    have e : (((k + 1 : Nat) : Int) - 1) = (k : Int) := by omega
    have c1 : (k : Int) ≥ 0 := by omega
    have c2 : all.length < 140737488355328 := by omega
    have w : wrap64 ((k : Int) - 1) = (k : Int) - 1 := wrap_id (by omega) (by omega)
    have w1 : IntKind.u64.wrap (wrap64 (8 * (k : Int))) = 8 * (k : Int) := by
      rw [show wrap64 (8 * (k : Int)) = 8 * (k : Int) from wrap_id (by omega) (by omega), u64_small _ (by omega) (by omega)]
    have c3 : (0 : Int) ≤ 8 * (k : Int) := by clear w w1; omega
    rw [e, spec_l01Hash.lv1_eq, w, w1]
    clear w w1
    rw [if_pos c1, if_pos c3, if_pos c2]
    exact ih _
theorem hash_l0 (x h : List Int) (hh : h.length = 8) : ∀ (k : Nat) (all : List Int), (all.length + k) % 64 = 56 → k ≤ 64 → all.length + k ≤ 50000000 → ∃ t, spec_l01Hash.lv0 x h all = some t ∧ t.size = 32
  | 0, all, hm, hk, ha => by
    rw [spec_l01Hash.lv0_eq, if_pos (by omega)]
    exact hash_l1 x h hh 8 all (by omega) (by omega) (by omega)
  | k + 1, all, hm, hk, ha => by
    rw [spec_l01Hash.lv0_eq]
    by_cases c : ((all.length : Int) % 64) = 56
    · rw [if_pos c]
      exact hash_l1 x h hh 8 all (by omega) (by omega) (by omega)
    · rw [if_neg c, if_pos (by omega)]
      exact hash_l0 x h hh k (all ++ [0]) (by simp; omega) (by omega) (by simp; omega)
theorem hash_v (x : List Int) (hx : x.length ≤ 40000000) : ∃ t, spec_l01Hash.v x = some t ∧ t.size = 32 := by
  rw [spec_l01Hash.v_eq, Option.bind_some, if_pos (by simp; omega), Option.bind_some, if_pos (by simp; omega)]
  refine hash_l0 x _ rfl ((56 + 64 - (x.length + 1) % 64) % 64) _ ?_ (by omega) ?_
  · simp; omega
  · simp; omega
end Go.Proofs.YtdpdbegglkdgnaaDoor.A
end

section
namespace Go.Proofs.YtdpdbegglkdgnaaDoor.A
open Go.RowKit Go.Proofs.YtdpdbegglkdgnaaDoorW.PrintWords
theorem bytes_append (a b : ByteArray) : bytesOf (a ++ b) = bytesOf a ++ bytesOf b := by
  unfold bytesOf
  rw [ByteArray.data_append, Array.toList_append, List.map_append]
/-- n in k bytes, the high one first. -/
def beL (n : Int) : Nat → List Int
  | 0 => []
  | k + 1 => beL (n / 256) k ++ [n % 256]
theorem beL_len (n : Int) (k : Nat) : (beL n k).length = k := by
  induction k generalizing n with
  | zero => rfl
  | succ k ih => simp [beL, ih]
theorem impl_number1 (n : Int) : impl_number.v n 1 = some (strOfNums (beL n 1)) := by
  have w0 : wrap64 (1 - 1) = 0 := by rw [wrap_id (by omega) (by omega)]; rfl
  have w1 : wrap64 (0 - 1) = -1 := by rw [wrap_id (by omega) (by omega)]; rfl
  rw [impl_number.v_eq, if_pos (by omega), if_pos (by simp), w0, impl_number.lv0_eq, if_pos (by omega), if_pos (by omega), if_pos (by simp), w1, impl_number.lv0_eq, if_neg (by omega)]
  rfl
theorem impl_number2 (n : Int) : impl_number.v n 2 = some (strOfNums (beL n 2)) := by
  have w2 : wrap64 (2 - 1) = 1 := by rw [wrap_id (by omega) (by omega)]; rfl
  have w0 : wrap64 (1 - 1) = 0 := by rw [wrap_id (by omega) (by omega)]; rfl
  have w1 : wrap64 (0 - 1) = -1 := by rw [wrap_id (by omega) (by omega)]; rfl
  rw [impl_number.v_eq, if_pos (by omega), if_pos (by simp), w2, impl_number.lv0_eq, if_pos (by omega), if_pos (by omega), if_pos (by simp), w0, impl_number.lv0_eq, if_pos (by omega), if_pos (by omega), if_pos (by simp), w1, impl_number.lv0_eq, if_neg (by omega)]
  rfl
theorem be_front (j : Nat) : ∀ n : Int, beL n (j + 1) = (n / 256 ^ j % 256) :: beL n j := by
  induction j with
  | zero => intro n; simp [beL]
  | succ j ih =>
    intro n
    have h : beL n (j + 1 + 1) = beL (n / 256) (j + 1) ++ [n % 256] := rfl
    have h2 : n / 256 / 256 ^ j = n / 256 ^ (j + 1) := by
      rw [Int.ediv_ediv_of_nonneg (by omega), Int.pow_succ, Int.mul_comm]
    rw [h, ih, h2]
    rfl
theorem shr_be (n : Int) (j : Nat) (hj : j ≤ 7) : shr .i64 n (IntKind.u64.wrap (wrap64 (8 * (j : Int)))) = n / 256 ^ j := by
  have w : wrap64 (8 * (j : Int)) = ((8 * j : Nat) : Int) := by rw [wrap_id (by omega) (by omega)]; omega
  have w2 : IntKind.u64.wrap ((8 * j : Nat) : Int) = ((8 * j : Nat) : Int) := by
    have : 8 * j < 18446744073709551616 := by omega
    unfold IntKind.wrap
    simp [IntKind.bits, IntKind.signed]
    omega
  rw [w, w2]
  clear w w2
  unfold shr
  rw [Int.toNat_natCast, Nat.min_eq_left (by show 8 * j ≤ 64; omega), Int.pow_mul]
  rfl
theorem spec_number_l (n : Int) : ∀ (j : Nat) (acc : List Int), j ≤ 8 → acc.length + j ≤ 1000000 → spec_l02Number.lv0 n acc ((j : Int) - 1) = some (acc ++ beL n j)
  | 0, acc, hj, ha => by rw [spec_l02Number.lv0_eq, if_neg (by omega)]; simp [beL]
  | j + 1, acc, hj, ha => by
    have ih := spec_number_l n j (acc ++ [n / 256 ^ j % 256]) (by omega) (by rw [List.length_append]; show acc.length + 1 + j ≤ _; omega)
    have e : (((j + 1 : Nat) : Int) - 1) = (j : Int) := by omega
    have hs := shr_be n j (by omega)
    have h0 : 0 ≤ IntKind.u64.wrap (wrap64 (8 * (j : Int))) := by
      have w : wrap64 (8 * (j : Int)) = ((8 * j : Nat) : Int) := by rw [wrap_id (by omega) (by omega)]; omega
      rw [w]
      clear w hs
      unfold IntKind.wrap
      simp [IntKind.bits, IntKind.signed]
      omega
    have w : wrap64 ((j : Int) - 1) = (j : Int) - 1 := wrap_id (by omega) (by omega)
    have c1 : (j : Int) ≥ 0 := by omega
    have c2 : acc.length < 140737488355328 := by omega
    rw [e, spec_l02Number.lv0_eq, if_pos c1, if_pos h0, if_pos c2, hs, w, ih, be_front, List.append_assoc]
    rfl
theorem spec_number_v (n : Int) (k : Nat) (hk : k ≤ 8) : spec_l02Number.v n k = some (beL n k) := by
  have w : wrap64 ((k : Int) - 1) = (k : Int) - 1 := wrap_id (by omega) (by omega)
  rw [spec_l02Number.v_eq, w, spec_number_l n k [] hk (by simp; omega)]
  rfl
end Go.Proofs.YtdpdbegglkdgnaaDoor.A
end

section
namespace Go.Proofs.YtdpdbegglkdgnaaDoor.A
open Go.RowKit Go.Proofs.YtdpdbegglkdgnaaDoorW.PrintWords
theorem be1 (n : Int) : beL n 1 = [n % 256] := rfl
theorem secret_v (n : Int) : ∃ t, spec_l04Secret.v n = some t ∧ impl_hash.v ((⟨#[110, 111, 100, 101, 32, 107, 101, 121]⟩ : ByteArray) ++ strOfNums [n % 256]) = some t ∧ t.size = 32 := by
  have h1 : (strOfNums [n % 256]).size = 1 := by rw [strOf_size]; rfl
  have h8 : (⟨#[110, 111, 100, 101, 32, 107, 101, 121]⟩ : ByteArray).size = 8 := rfl
  obtain ⟨s, hs⟩ : ∃ s, s = (⟨#[110, 111, 100, 101, 32, 107, 101, 121]⟩ : ByteArray) ++ strOfNums [n % 256] := ⟨_, rfl⟩
  have hz : s.size = 9 := by rw [hs, ByteArray.size_append, h1, h8]
  obtain ⟨t, ht, h32⟩ := hash_v (bytesOf s) (by rw [bytesOf_length, hz]; decide)
  refine ⟨t, ?_, ?_, h32⟩
  · rw [spec_l04Secret.v_eq, Option.bind_some, ← hs, h1, hz, if_pos (by decide), if_pos (by decide), ht, Option.bind_some]
  · rw [← hs, impl_hash.v_eq, hz, if_pos (by decide), ht]
theorem mac_both (n : Int) (S : ByteArray) (hS : S.size ≤ 30000000) : ∃ t, spec_l04Mac.v n (bytesOf S) = some t ∧ impl_mark.v n S = some t ∧ t.size = 8 := by
  obtain ⟨t1, h1, h2, hz⟩ := secret_v n
  obtain ⟨t2, ht, h32⟩ := hash_v (bytesOf (t1 ++ S)) (by rw [bytesOf_length, ByteArray.size_append]; omega)
  have hb : bytesOf t1 ++ bytesOf S = bytesOf (t1 ++ S) := (bytes_append t1 S).symm
  have hn : (strOfNums (beL n 1)).size = 1 := by rw [strOf_size]; rfl
  have c1 : t1.size + (bytesOf S).length < 140737488355328 ∧ 0 < t1.size := by rw [bytesOf_length]; omega
  have c2 : t1.size + S.size ≤ 9223372036854775807 := by omega
  have c3 : (t1 ++ S).size ≤ 40000000 := by rw [ByteArray.size_append]; omega
  have c4 : (8 : Int) ≤ (t2.size : Int) := by omega
  refine ⟨t2.extract 0 8, ?_, ?_, by rw [ByteArray.size_extract]; omega⟩
  · rw [spec_l04Mac.v_eq, h1, Option.bind_some, if_pos c1, hb, ht, Option.bind_some, if_pos (by omega)]
  · rw [impl_mark.v_eq, impl_number1, Option.bind_some, hn, if_pos (by decide), be1, h2, Option.bind_some, if_pos c2, impl_hash.v_eq, if_pos c3, ht, Option.bind_some, if_pos (by decide), if_pos c4]
end Go.Proofs.YtdpdbegglkdgnaaDoor.A
end

section
namespace Go.Proofs.YtdpdbegglkdgnaaDoor.A
open Go.RowKit Go.Proofs.YtdpdbegglkdgnaaDoorW.PrintWords
theorem vote_v (a0 a1 a2 : Int) (a3 : ByteArray) (h3 : a3.size ≤ 65536) : ∃ t, spec_l10Mac.v a0 a1 a2 a3 = some t ∧ impl_voteMac.v a0 a1 a2 a3 = some t := by
  have n1 : (strOfNums (beL a1 2)).size = 2 := by rw [strOf_size, beL_len]
  have n2 : (strOfNums (beL a2 2)).size = 2 := by rw [strOf_size, beL_len]
  have n0 : (⟨#[99, 104, 101, 99, 107, 112, 111, 105, 110, 116]⟩ : ByteArray).size = 10 := rfl
  obtain ⟨S, hS⟩ : ∃ S, S = (((⟨#[99, 104, 101, 99, 107, 112, 111, 105, 110, 116]⟩ : ByteArray) ++ strOfNums (beL a1 2)) ++ strOfNums (beL a2 2)) ++ a3 := ⟨_, rfl⟩
  have hz : S.size = 14 + a3.size := by rw [hS, ByteArray.size_append, ByteArray.size_append, ByteArray.size_append, n0, n1, n2]
  have z2 : (((⟨#[99, 104, 101, 99, 107, 112, 111, 105, 110, 116]⟩ : ByteArray) ++ strOfNums (beL a1 2)) ++ strOfNums (beL a2 2)).size = 14 := by rw [ByteArray.size_append, ByteArray.size_append, n0, n1, n2]
  have z1 : ((⟨#[99, 104, 101, 99, 107, 112, 111, 105, 110, 116]⟩ : ByteArray) ++ strOfNums (beL a1 2)).size = 12 := by rw [ByteArray.size_append, n0, n1]
  obtain ⟨t, h1, h2, -⟩ := mac_both a0 S (by omega)
  refine ⟨t, ?_, ?_⟩
  · rw [spec_l10Mac.v_eq]
    rw [show spec_l02Number.v a1 2 = some (beL a1 2) from spec_number_v a1 2 (by decide), show spec_l02Number.v a2 2 = some (beL a2 2) from spec_number_v a2 2 (by decide)]
    simp only [Option.bind_some]
    rw [← hS, n1, z1, n2, z2, hz]
    rw [if_pos (by decide), if_pos (by decide), if_pos (by omega), if_pos (by omega), h1, Option.bind_some]
  · rw [impl_voteMac.v_eq, impl_number2, Option.bind_some, n1, if_pos (by decide), impl_number2, Option.bind_some, z1, n2, if_pos (by decide), z2, if_pos (by omega), ← hS, h2, Option.bind_some]
theorem in_one (a b c : Int) : ∃ r, spec_l01In.v a b c = some r ∧ impl_within.v a b c = some r := by
  rw [spec_l01In.v_eq, impl_within.v_eq]
  split <;> exact ⟨_, rfl, rfl⟩
theorem ask_one (a b : Int) (s : ByteArray) : ∃ r, spec_l10Ask.v a b s = some r ∧ impl_isPoint.v a b s = some r := by
  obtain ⟨x, h1, h2⟩ := in_one a 0 65535
  obtain ⟨y, h3, h4⟩ := in_one b 1 64
  rw [spec_l10Ask.v_eq, impl_isPoint.v_eq, h1, h2, Option.bind_some, Option.bind_some, h3, h4, Option.bind_some, Option.bind_some, impl_isHash.v_eq, Option.bind_some]
  cases x
  · exact ⟨_, rfl, rfl⟩
  · cases y <;> exact ⟨_, rfl, rfl⟩
end Go.Proofs.YtdpdbegglkdgnaaDoor.A
end

section
namespace Go.Proofs.YtdpdbegglkdgnaaDoor.A
open Go.RowKit Go.Proofs.YtdpdbegglkdgnaaDoorW.PrintWords
theorem ask_size (a b : Int) (s : ByteArray) (h : spec_l10Ask.v a b s = some true) : s.size = 32 := by
  obtain ⟨x, h1, -⟩ := in_one a 0 65535
  obtain ⟨y, h3, -⟩ := in_one b 1 64
  rw [spec_l10Ask.v_eq, h1, Option.bind_some, h3, Option.bind_some] at h
  cases x
  · cases h
  · cases y
    · cases h
    · have h2 := eq_of_beq (Option.some.inj h)
      omega
theorem nodes_one (a : Int) : ∃ r, spec_l04Nodes.v a = some r ∧ impl_areNodes.v a = some r := by
  rw [spec_l04Nodes.v_eq, impl_areNodes.v_eq, impl_FaultsOf.v_eq]
  by_cases h1 : a = 1
  · rw [if_pos h1, if_pos h1, Option.bind_some]; exact ⟨_, rfl, rfl⟩
  by_cases h4 : a = 4
  · rw [if_neg h1, if_neg h1, if_pos h4, if_pos h4, Option.bind_some]; exact ⟨_, rfl, rfl⟩
  by_cases h7 : a = 7
  · rw [if_neg h1, if_neg h1, if_neg h4, if_neg h4, if_pos h7, Option.bind_some, h7]; exact ⟨_, rfl, rfl⟩
  · rw [if_neg h1, if_neg h1, if_neg h4, if_neg h4, if_neg h7, Option.bind_some]
    exact ⟨false, by simp [h7], rfl⟩
theorem quorum_one (a : Int) : spec_l06Quorum.v a = impl_quorum.v a := by
  rw [spec_l06Quorum.v_eq, impl_quorum.v_eq, Int.mul_comm]
theorem stable_l (x0 a b : Int) (c : ByteArray) (l : List S87) (hc : c.size ≤ 65536) (hl : l.length ≤ 9223372036854775806) :
    ∀ (d : Nat) (i : Int), ((l.length : Int) - i).toNat = d → 0 ≤ i → ∃ r, spec_l10Stable.lv0 x0 i a b c l = some r ∧ impl_StableOK.lv0 x0 l l.length i a b c l = some r
  | 0, i, h, h0 => ⟨true, by rw [spec_l10Stable.lv0_eq, if_neg (by omega)], by rw [impl_StableOK.lv0_eq, if_neg (by omega)]⟩
  | d + 1, i, h, h0 => by
    have hlt : i < (l.length : Int) := by omega
    obtain ⟨r, e1, e2⟩ := stable_l x0 a b c l hc hl d (i + 1) (by omega) (by omega)
    obtain ⟨y, h1, h2⟩ := in_one ((rd_T87 l i).f0) 0 (wrap64 (x0 - 1))
    obtain ⟨t, h3, h4⟩ := vote_v ((rd_T87 l i).f0) a b c hc
    rw [spec_l10Stable.lv0_eq, impl_StableOK.lv0_eq, wrap_id (x := i + 1) (by omega) (by omega), e1, e2, if_pos hlt, if_pos h0, if_pos hlt, if_pos h0, if_pos hlt, h1, h2, h3, h4]
    simp only [Option.bind_some]
    cases y
    · exact ⟨false, rfl, rfl⟩
    rw [if_pos rfl]
    have hend : ∃ q, (if (rd_T87 l i).f1.toList = t.toList then some r else some false) = some q := by split <;> exact ⟨_, rfl⟩
    obtain ⟨q, hq⟩ := hend
    by_cases hi : i > 0
    · rw [if_pos hi, wrap_id (x := i - 1) (by omega) (by omega), if_pos (by omega), if_pos (by omega)]
      by_cases hg : (rd_T87 l (i - 1)).f0 ≥ (rd_T87 l i).f0
      · rw [if_pos hg]; exact ⟨false, rfl, rfl⟩
      · rw [if_neg hg]; exact ⟨q, hq, hq⟩
    · rw [if_neg hi]; exact ⟨q, hq, hq⟩
theorem stable_one (a0 a b : Int) (c : ByteArray) (l : List S87) (hl : l.length ≤ 9223372036854775806) : ∃ r, spec_StableOK.v a0 a b c l = some r ∧ impl_StableOK.v a0 a b c l = some r := by
  obtain ⟨n, h1, h2⟩ := nodes_one a0
  obtain ⟨p, h3, h4⟩ := ask_one a b c
  obtain ⟨m, h5⟩ : ∃ m, impl_quorum.v a0 = some m := ⟨_, impl_quorum.v_eq a0⟩
  rw [spec_StableOK.v_eq, impl_StableOK.v_eq, spec_l10Stable.v_eq, h1, h2, h3, h4, quorum_one, h5]
  simp only [Option.bind_some]
  cases n
  · refine ⟨false, rfl, ?_⟩
    rw [if_neg (by decide), impl_StableOK.jv0_eq, if_pos rfl]
  rw [if_pos rfl, if_pos rfl]
  cases p
  · refine ⟨false, ?_, ?_⟩
    · rw [if_neg (by decide), spec_l10Stable.jv0_eq, if_pos rfl]; rfl
    · rw [if_neg (by decide), impl_StableOK.jv0_eq, if_pos rfl]
  have hc := ask_size a b c h3
  rw [if_pos rfl, if_pos rfl, spec_l10Stable.jv0_eq, impl_StableOK.jv0_eq]
  by_cases hm : ((l.length : Int) != m) = true
  · rw [if_pos hm, if_pos hm]; exact ⟨false, rfl, rfl⟩
  · rw [if_neg hm, if_neg hm]
    obtain ⟨r, e1, e2⟩ := stable_l a0 a b c l (by omega) hl _ 0 rfl (by omega)
    rw [e1, e2]; exact ⟨r, rfl, rfl⟩
theorem szVote_v (f : Int) (s : ByteArray) (x : Int) (h0 : 0 ≤ x) (h1 : x ≤ 1048576) (hs : s.size ≤ 9223372036854775807) : ∃ t, laws_szVote.v f s x = some t ∧ (t < 0 ∨ (0 ≤ t ∧ t ≤ 1048576)) := by
  rw [laws_szVote.v_eq, wrap_id (by omega) (by omega)]
  by_cases h : x - (s.size : Int) < 0
  · rw [if_pos h]; exact ⟨-1, rfl, Or.inl (by omega)⟩
  · rw [if_neg h]; exact ⟨_, rfl, Or.inr (by omega)⟩
theorem szVoteS_l (l : List S108) (hl : l.length ≤ 9223372036854775806) (hg : ∀ y ∈ l, good108 y) : ∀ (d : Nat) (i x : Int), ((l.length : Int) - i).toNat = d → 0 ≤ i → 0 ≤ x → x ≤ 1048576 → ∃ t, laws_szVoteS.lv0 l x i = some t ∧ (t < 0 ∨ (0 ≤ t ∧ t ≤ 1048576))
  | 0, i, x, h, h0, hx, hx2 => ⟨x, by rw [laws_szVoteS.lv0_eq, if_neg (by omega)], Or.inr ⟨hx, hx2⟩⟩
  | d + 1, i, x, h, h0, hx, hx2 => by
    have hlt : i < (l.length : Int) := by omega
    have hm : rd_T108 l i ∈ l := by
      unfold rd_T108
      rw [List.getD, List.getElem?_eq_getElem (by omega : i.toNat < l.length)]
      exact List.getElem_mem _
    obtain ⟨t, e, ht⟩ := szVote_v (rd_T108 l i).f0 (rd_T108 l i).f1 x hx hx2 (hg _ hm).2
    rw [laws_szVoteS.lv0_eq, if_pos hlt, if_pos h0, e, Option.bind_some, wrap_id (x := i + 1) (by omega) (by omega)]
    by_cases h2 : t < 0
    · rw [if_pos h2]; exact ⟨-1, rfl, Or.inl (by omega)⟩
    · rw [if_neg h2]
      exact szVoteS_l l hl hg d (i + 1) t (by omega) (by omega) (by omega) (by omega)
theorem szStable_v (a b : Int) (c : ByteArray) (l : List S108) (hc : c.size ≤ 9223372036854775807) (hl : l.length ≤ 9223372036854775807) (hg : ∀ y ∈ l, good108 y) : ∃ t, laws_szStable.v a b c l 1048576 = some t ∧ (¬ t < 0 → l.length ≤ 1048576) := by
  rw [laws_szStable.v_eq, wrap_id (by omega) (by omega)]
  by_cases h : (1048576 : Int) - (c.size : Int) < 0
  · rw [if_pos h]; exact ⟨-1, rfl, fun h => by omega⟩
  rw [if_neg h, laws_szVoteS.v_eq, wrap_id (x := 1048576 - (c.size : Int) - (l.length : Int)) (by omega) (by omega)]
  by_cases h2 : 1048576 - (c.size : Int) - (l.length : Int) < 0
  · rw [if_pos h2, Option.bind_some, if_pos (by decide)]; exact ⟨-1, rfl, fun h => by omega⟩
  · obtain ⟨t, e, -⟩ := szVoteS_l l (by omega) hg _ 0 (1048576 - (c.size : Int) - (l.length : Int)) rfl (by omega) (by omega) (by omega)
    rw [if_neg h2, e, Option.bind_some]
    by_cases h3 : t < 0
    · rw [if_pos h3]; exact ⟨-1, rfl, fun h => by omega⟩
    · rw [if_neg h3]; exact ⟨t, rfl, fun _ => by omega⟩
theorem toVoteS_v (l : List S108) (h : l.length ≤ 1048576) : laws_toVoteS.v l = some (l.map fun v => (⟨v.f0, v.f1⟩ : S87)) := by
  rw [laws_toVoteS.v_eq, if_pos (by omega), if_pos (by omega)]
  exact copy_loop z108 (fun v => (⟨v.f0, v.f1⟩ : S87)) l (by omega) (fun acc i => laws_toVoteS.lv0 l acc i) (fun acc i h0 h1 h2 => by
    show laws_toVoteS.lv0 l acc i = _
    rw [laws_toVoteS.lv0_eq, if_pos h1, if_pos h0, laws_toVote.v_eq, Option.bind_some, if_pos (by omega)]; rfl) (fun acc i h0 => by
    show laws_toVoteS.lv0 l acc i = _
    rw [laws_toVoteS.lv0_eq, if_neg (by omega)]) l.length (List.replicate ((l.length : Int) : Int).toNat z87) 0 (by omega) (by omega) (by omega) (by simp) (fun j hj => by omega)
theorem eqVoteS_v (l : List S87) (h : l.length ≤ 281474976710656) : laws_eqVoteS.v l l = some true := by
  rw [laws_eqVoteS.v_eq, if_pos rfl, loop_all (L := fun i => laws_eqVoteS.lv0 l l i) (fun _ => true) l.length (by omega) (fun i h0 h1 => by
    show laws_eqVoteS.lv0 l l i = _
    rw [laws_eqVoteS.lv0_eq, if_pos h1, if_pos h0, if_pos h1, laws_eqVote.v_eq, if_pos rfl, if_pos rfl, Option.bind_some]) (fun i h0 h1 => by
    show laws_eqVoteS.lv0 l l i = _
    rw [laws_eqVoteS.lv0_eq, if_neg (by omega)]) _ 0 rfl (by omega), (allI_iff _ _ _ _ rfl).2 (fun _ _ _ => rfl)]
theorem FnExactStableOK_pure (a0 : Int) (y1 : S47) : (Lit.int .i64 a0).wf = true → good47 y1 → laws_FnExactStableOK.v a0 y1.f0 y1.f1 y1.f2 y1.f3 = some true := by
  intro _ hy
  obtain ⟨-, -, hc, hl, hg⟩ := hy
  obtain ⟨t, e, ht⟩ := szStable_v y1.f0 y1.f1 y1.f2 y1.f3 hc hl hg
  rw [laws_FnExactStableOK.v_eq, e, Option.bind_some]
  by_cases h : t < 0
  · rw [if_pos h]
  have hlen := ht h
  obtain ⟨r, e1, e2⟩ := stable_one a0 y1.f0 y1.f1 y1.f2 (y1.f3.map fun v => (⟨v.f0, v.f1⟩ : S87)) (by rw [List.length_map]; omega)
  have ho : laws_toStable.v y1.f0 y1.f1 y1.f2 y1.f3 = some (y1.f0, y1.f1, y1.f2, y1.f3.map fun v => (⟨v.f0, v.f1⟩ : S87)) := by rw [laws_toStable.v_eq, toVoteS_v _ hlen, Option.bind_some]
  rw [if_neg h, ho, Option.bind_some]
  simp only [Option.bind_some, e1, e2, laws_eqStable.v_eq, if_true, eqVoteS_v _ (show (y1.f3.map fun v => (⟨v.f0, v.f1⟩ : S87)).length ≤ 281474976710656 by rw [List.length_map]; omega), bne_self_eq_false, Bool.false_eq_true, if_false]
end Go.Proofs.YtdpdbegglkdgnaaDoor.A
end
