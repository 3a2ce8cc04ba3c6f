/- A part of the proof that FnExactPiecesRoot returns true at every input: plain functions, contracts and lemmas. No conditions. -/
import Derived.Test.YtdpdbegglkdgnaaDoorQPiecesRoota
set_option linter.unusedVariables false
set_option linter.unusedSimpArgs false
set_option linter.unusedSectionVars false
section
namespace Go.Proofs.YtdpdbegglkdgnaaDoor.A
open Go.RowKit Go.Proofs.YtdpdbegglkdgnaaDoorW.PrintWords
theorem toS_v (l : List ByteArray) (h : l.length ≤ 1048576) : laws_toStringS.v l = some l := by
  rw [laws_toStringS.v_eq, if_pos (by omega), if_pos (by omega)]
  have h1 := copy_loop ByteArray.empty id l (by omega) (fun acc i => laws_toStringS.lv0 l acc i) (fun acc i h0 h1 h2 => by
    show laws_toStringS.lv0 l acc i = _
    rw [laws_toStringS.lv0_eq, if_pos h1, if_pos h0, if_pos (by omega)]; rfl) (fun acc i h0 => by
    show laws_toStringS.lv0 l acc i = _
    rw [laws_toStringS.lv0_eq, if_neg (by omega)]) l.length (List.replicate ((l.length : Int) : Int).toNat ⟨#[]⟩) 0 (by omega) (by omega) (by omega) (by simp) (fun j hj => by omega)
  simpa using h1
theorem eqS_v (l : List ByteArray) (h : l.length ≤ 281474976710656) : laws_eqStringS.v l l = some true := by
  rw [laws_eqStringS.v_eq, if_pos rfl, loop_all (L := fun i => laws_eqStringS.lv0 l l i) (fun _ => true) l.length (by omega) (fun i h0 h1 => by
    show laws_eqStringS.lv0 l l i = _
    rw [laws_eqStringS.lv0_eq, if_pos h1, if_pos h0, if_pos h1, if_pos rfl]; rfl) (fun i h0 h1 => by
    show laws_eqStringS.lv0 l l i = _
    rw [laws_eqStringS.lv0_eq, if_neg (by omega)]) _ 0 rfl (by omega), (allI_iff _ _ _ _ rfl).2 (fun _ _ _ => rfl)]
def cutM : Nat → ByteArray → List ByteArray
  | 0, _ => []
  | d + 1, s => if s.size = 0 then [] else s.extract 0 (min s.size 32) :: cutM d (s.extract (min s.size 32) s.size)
theorem cutM_len : ∀ (d : Nat) (s : ByteArray), (cutM d s).length ≤ s.size
  | 0, s => by simp [cutM]
  | d + 1, s => by
    unfold cutM
    split
    · simp
    · have := cutM_len d (s.extract (min s.size 32) s.size)
      rw [ByteArray.size_extract] at this
      simp only [List.length_cons]
      omega
theorem ba_nil (s : ByteArray) : s.toList = [] ↔ s.size = 0 := by
  rw [ba_toList]
  constructor
  · intro h; show s.data.size = 0; rw [← Array.length_toList, h]; rfl
  · intro h; have h2 : s.data.toList.length = 0 := by rw [Array.length_toList]; exact h
    exact List.eq_nil_of_length_eq_zero h2
theorem impl_cut_l : ∀ (d : Nat) (s : ByteArray) (acc : List ByteArray), s.size ≤ d → acc.length + s.size ≤ 8796093022207 → impl_cut.lv0 s acc = some (acc ++ cutM d s)
  | 0, s, acc, h, hb => by rw [impl_cut.lv0_eq, if_pos ((ba_nil s).2 (by omega))]; simp [cutM]
  | d + 1, s, acc, h, hb => by
    rw [impl_cut.lv0_eq]
    unfold cutM
    by_cases h0 : s.size = 0
    · rw [if_pos ((ba_nil s).2 h0), if_pos h0]; simp
    · have hm : mn (s.size : Int) 32 = ((min s.size 32 : Nat) : Int) := by unfold mn; split <;> omega
      rw [if_neg (fun h => h0 ((ba_nil s).1 h)), if_neg h0, hm, if_pos (by omega), if_pos (by omega), if_pos (by omega), Int.toNat_natCast]
      rw [impl_cut_l d _ _ (by rw [ByteArray.size_extract]; omega) (by rw [ByteArray.size_extract]; simp; omega)]
      simp
theorem impl_cut_v (s : ByteArray) (h : s.size ≤ 8796093022207) : impl_cut.v s = some (cutM s.size s) := by
  rw [impl_cut.v_eq, impl_cut_l s.size s [] (Nat.le_refl _) (by simpa using h)]; simp
theorem spec_l01In_v (n low high : Int) : spec_l01In.v n low high = some (inB n low high) := by
  rw [spec_l01In.v_eq]; unfold inB; split <;> simp <;> omega
def sumz : List ByteArray → Nat
  | [] => 0
  | x :: r => x.size + sumz r
theorem szT_l (l : List ByteArray) (hl : l.length ≤ 9223372036854775806) (hg : ∀ y ∈ l, y.size ≤ 9223372036854775807) : ∀ (d i : Nat) (x : Int), l.length - i = d → i ≤ l.length → 0 ≤ x → x ≤ 1048576 → ∃ t, laws_szStringS.lv0 l x i = some t ∧ (¬ t < 0 → (sumz (l.drop i) : Int) ≤ x)
  | 0, i, x, h, hi, hx, hx2 => ⟨x, by rw [laws_szStringS.lv0_eq, if_neg (by omega)], fun _ => by rw [List.drop_eq_nil_of_le (by omega)]; exact hx⟩
  | d + 1, i, x, h, hi, hx, hx2 => by
    have hlt : i < l.length := by omega
    have hs := hg _ (List.getElem_mem hlt)
    have w : wrap64 ((i : Int) + 1) = ((i + 1 : Nat) : Int) := by rw [wrap_id (by omega) (by omega)]; omega
    rw [laws_szStringS.lv0_eq, if_pos (by omega), if_pos (by omega), rdOf_at l i hlt, wrap_id (x := x - _) (by omega) (by omega), w]
    clear w
    by_cases h2 : x - ((l[i]).size : Int) < 0
    · rw [if_pos h2]; exact ⟨-1, rfl, fun h => by omega⟩
    · rw [if_neg h2]
      obtain ⟨t, e, ht⟩ := szT_l l hl hg d (i + 1) (x - (l[i].size : Int)) (by omega) (by omega) (by omega) (by omega)
      refine ⟨t, e, fun q => ?_⟩
      have := ht q
      rw [List.drop_eq_getElem_cons hlt]
      show ((l[i].size + sumz (l.drop (i + 1)) : Nat) : Int) ≤ x
      omega
theorem szT_v (l : List ByteArray) (hl : l.length ≤ 9223372036854775807) (hg : ∀ y ∈ l, y.size ≤ 9223372036854775807) : ∃ t, laws_szStringS.v l 1048576 = some t ∧ (¬ t < 0 → l.length ≤ 1048576 ∧ sumz l ≤ 1048576) := by
  rw [laws_szStringS.v_eq, wrap_id (by omega) (by omega)]
  by_cases h2 : (1048576 : Int) - (l.length : Int) < 0
  · rw [if_pos h2]; exact ⟨-1, rfl, fun h => by omega⟩
  · obtain ⟨t, e, ht⟩ := szT_l l (by omega) hg _ 0 (1048576 - (l.length : Int)) rfl (by omega) (by omega) (by omega)
    rw [if_neg h2]
    refine ⟨t, e, fun q => ?_⟩
    have := ht q
    rw [List.drop_zero] at this
    omega
/-- All texts, one behind the other. -/
def J (l : List ByteArray) : ByteArray := joinL l ⟨#[]⟩
theorem J_data (l : List ByteArray) : (J l).data.toList = (l.map (·.data.toList)).flatten := by
  show ([] : List UInt8).intercalate (l.map (·.data.toList)) = _
  induction l with
  | nil => rfl
  | cons x r ih =>
    cases r with
    | nil => simp [List.intercalate]
    | cons y t =>
      have : ([] : List UInt8).intercalate ((x :: y :: t).map (·.data.toList)) = x.data.toList ++ ([] : List UInt8).intercalate ((y :: t).map (·.data.toList)) := by
        simp [List.intercalate, List.intersperse]
      rw [this, ih]
      simp
theorem J_cons (x : ByteArray) (r : List ByteArray) : J (x :: r) = x ++ J r := by
  refine ba_inj.1 ?_
  rw [ba_toList, ba_toList, J_data, ByteArray.data_append, Array.toList_append, J_data]
  simp
theorem J_size : ∀ l : List ByteArray, (J l).size = sumz l
  | [] => rfl
  | x :: r => by rw [J_cons, ByteArray.size_append, J_size r]; rfl
def okP : List ByteArray → Bool
  | [] => true
  | x :: r => if r = [] then decide (1 ≤ x.size ∧ x.size ≤ 32) else decide (x.size = 32) && okP r
theorem ext_left (a b : ByteArray) : (a ++ b).extract 0 a.size = a := by
  have h := ext_mid [] (bytesOf a) (bytesOf b)
  simp only [List.length_nil, List.nil_append, bytesOf_length, Nat.zero_add] at h
  rw [str_append, str_bytes, str_bytes] at h
  exact h
theorem ext_right (a b : ByteArray) : (a ++ b).extract a.size (a ++ b).size = b := by
  have h := ext_mid (bytesOf a) (bytesOf b) []
  simp only [List.append_nil, bytesOf_length] at h
  rw [str_append, str_bytes, str_bytes] at h
  rw [ByteArray.size_append]
  exact h
theorem cutM_empty : ∀ (d : Nat) (s : ByteArray), s.size = 0 → cutM d s = []
  | 0, s, h => rfl
  | d + 1, s, h => by unfold cutM; rw [if_pos h]
theorem cut_ok : ∀ (l : List ByteArray) (d : Nat), (J l).size ≤ d → (cutM d (J l) = l ↔ okP l = true)
  | [], d, h => by rw [cutM_empty d (J []) rfl]; simp [okP]
  | x :: r, d, h => by
    have hz : (J (x :: r)).size = x.size + (J r).size := by rw [J_cons, ByteArray.size_append]
    unfold okP
    by_cases h0 : (J (x :: r)).size = 0
    · rw [cutM_empty d _ h0]
      constructor
      · intro e; cases e
      · intro e
        by_cases hr : r = []
        · rw [if_pos hr, decide_eq_true_eq] at e; omega
        · rw [if_neg hr, Bool.and_eq_true, decide_eq_true_eq] at e; omega
    · obtain ⟨d', rfl⟩ : ∃ d', d = d' + 1 := ⟨d - 1, by omega⟩
      have e1 : cutM (d' + 1) (J (x :: r)) = (J (x :: r)).extract 0 (min (J (x :: r)).size 32) :: cutM d' ((J (x :: r)).extract (min (J (x :: r)).size 32) (J (x :: r)).size) := by
        show (if (J (x :: r)).size = 0 then [] else _) = _
        rw [if_neg h0]
      rw [e1]
      constructor
      · intro e
        injection e with ea eb
        have hx : x.size = min (J (x :: r)).size 32 := by
          have := congrArg ByteArray.size ea
          rw [ByteArray.size_extract] at this
          omega
        rw [← hx, J_cons, ext_right] at eb
        have ih := (cut_ok r d' (by omega)).1 eb
        by_cases hr : r = []
        · rw [if_pos hr, decide_eq_true_eq]
          subst hr
          have : (J []).size = 0 := rfl
          omega
        · rw [if_neg hr, ih, Bool.and_true, decide_eq_true_eq]
          rcases Nat.lt_or_ge x.size 32 with hlt | hge
          · have hj : (J r).size = 0 := by omega
            rw [cutM_empty d' _ hj] at eb
            exact absurd eb.symm hr
          · omega
      · intro e
        by_cases hr : r = []
        · rw [if_pos hr, decide_eq_true_eq] at e
          subst hr
          have hj : (J []).size = 0 := rfl
          rw [show min (J [x]).size 32 = x.size by omega, J_cons, ext_right, cutM_empty d' _ hj, ext_left]
        · rw [if_neg hr, Bool.and_eq_true, decide_eq_true_eq] at e
          have ih := (cut_ok r d' (by omega)).2 e.2
          rw [show min (J (x :: r)).size 32 = x.size by omega, J_cons, ext_right, ext_left, ih]
theorem equalS_l (a b : List ByteArray) (hl : a.length = b.length) (h : a.length ≤ 1000000000) : ∀ (d i : Nat), a.length - i = d → i ≤ a.length → slices_Equal_string_string.lv0 a b a.length i = some (decide (a.drop i = b.drop i))
  | 0, i, hd, hi => by
    rw [slices_Equal_string_string.lv0_eq, if_neg (by omega), List.drop_eq_nil_of_le (by omega), List.drop_eq_nil_of_le (by omega)]
    simp
  | d + 1, i, hd, hi => by
    have ha : i < a.length := by omega
    have hb : i < b.length := by omega
    have w : wrap64 ((i : Int) + 1) = ((i + 1 : Nat) : Int) := by rw [wrap_id (by omega) (by omega)]; omega
    rw [slices_Equal_string_string.lv0_eq, w]
    clear w
    rw [if_pos (by omega), if_pos (by omega), if_pos (by omega), if_pos (by omega), rdOf_at a i ha, rdOf_at b i hb, List.drop_eq_getElem_cons ha, List.drop_eq_getElem_cons hb, equalS_l a b hl h d (i + 1) (by omega) (by omega)]
    by_cases e : a[i] = b[i]
    · rw [if_pos (by rw [e]), e]
      refine congrArg some (decide_eq_decide.2 ?_)
      rw [List.cons.injEq]
      exact ⟨fun h => ⟨rfl, h⟩, fun h => h.2⟩
    · rw [if_neg (fun q => e (ba_inj.1 q)), decide_eq_false (fun q => e (List.cons.inj q).1)]
theorem equalS_v (a b : List ByteArray) (h : a.length ≤ 1000000000) : slices_Equal_string_string.v a b = some (decide (a = b)) := by
  rw [slices_Equal_string_string.v_eq]
  by_cases hl : a.length = b.length
  · rw [if_pos (by omega)]
    have := equalS_l a b hl h a.length 0 rfl (by omega)
    rw [show ((0 : Nat) : Int) = 0 from rfl, List.drop_zero, List.drop_zero] at this
    exact this
  · rw [if_neg (by omega), decide_eq_false (fun e => hl (by rw [e]))]
theorem okS_l (l : List ByteArray) (hl : l.length ≤ 64) (hz : ∀ y ∈ l, y.size ≤ 1048576) : ∀ (d i : Nat), l.length - i = d → i ≤ l.length → spec_l09OK.lv0 l i = some (okP (l.drop i))
  | 0, i, hd, hi => by
    rw [spec_l09OK.lv0_eq, if_neg (by omega), List.drop_eq_nil_of_le (by omega)]
    rfl
  | d + 1, i, hd, hi => by
    have ha : i < l.length := by omega
    have w : wrap64 ((i : Int) + 1) = ((i + 1 : Nat) : Int) := by rw [wrap_id (by omega) (by omega)]; omega
    have w2 : wrap64 ((l.length : Int) - 1) = ((l.length : Int) - 1) := wrap_id (by omega) (by omega)
    rw [spec_l09OK.lv0_eq, w, w2]
    clear w w2
    rw [if_pos (by omega), if_pos (by omega), rdOf_at l i ha, spec_l01In_v, Option.bind_some, okS_l l hl hz d (i + 1) (by omega) (by omega), List.drop_eq_getElem_cons ha]
    unfold inB
    rw [okP]
    by_cases h1 : (1 : Int) ≤ (l[i].size : Int) ∧ (l[i].size : Int) ≤ 32
    · rw [decide_eq_true h1, if_pos rfl]
      by_cases h2 : (i : Int) < (l.length : Int) - 1
      · have hr : l.drop (i + 1) ≠ [] := fun e => by have := congrArg List.length e; rw [List.length_drop] at this; simp at this; omega
        rw [if_pos h2, if_neg hr]
        by_cases h3 : (l[i].size : Int) = 32
        · rw [if_pos h3, decide_eq_true (by omega), Bool.true_and]
        · rw [if_neg h3, decide_eq_false (by omega), Bool.false_and]
      · have hr : l.drop (i + 1) = [] := List.drop_eq_nil_of_le (by omega)
        rw [if_neg h2, hr, if_pos rfl, decide_eq_true (by omega)]
        rfl
    · rw [decide_eq_false h1, if_neg (by simp)]
      by_cases hr : l.drop (i + 1) = []
      · rw [if_pos hr, decide_eq_false (by omega)]
      · rw [if_neg hr, decide_eq_false (by omega), Bool.false_and]
theorem sumz_mem : ∀ (l : List ByteArray), ∀ y ∈ l, y.size ≤ sumz l
  | x :: r, y, h => by
    rcases List.mem_cons.1 h with rfl | h
    · show y.size ≤ y.size + sumz r; omega
    · have := sumz_mem r y h
      show y.size ≤ x.size + sumz r; omega
theorem pieces_one (l : List ByteArray) (hz : sumz l ≤ 1048576) : impl_arePieces.v l = some (decide (l.length ≤ 64) && okP l) ∧ spec_l09OK.v l = some (decide (l.length ≤ 64) && okP l) := by
  rw [impl_arePieces.v_eq, spec_l09OK.v_eq]
  by_cases h : l.length ≤ 64
  · have hJ := J_size l
    have hc := cutM_len (J l).size (J l)
    refine ⟨?_, ?_⟩
    · rw [if_pos (by omega), strings_Join.v_eq, if_pos ⟨by show (J l).size ≤ _; omega, by omega⟩, Option.bind_some]
      show (impl_cut.v (J l)).bind _ = _
      rw [impl_cut_v (J l) (by omega), Option.bind_some, equalS_v _ _ (by omega), Option.bind_some, decide_eq_true h, Bool.true_and]
      have := cut_ok l (J l).size (Nat.le_refl _)
      cases hq : okP l with
      | true => rw [decide_eq_true (this.2 hq)]
      | false => rw [decide_eq_false (fun e => by rw [this.1 e] at hq; cases hq)]
    · rw [if_neg (by omega)]
      have := okS_l l h (fun y hy => by have := sumz_mem l y hy; omega) l.length 0 rfl (by omega)
      rw [show ((0 : Nat) : Int) = 0 from rfl, List.drop_zero] at this
      rw [this, decide_eq_true h, Bool.true_and]
  · rw [if_neg (by omega), if_pos (by omega), decide_eq_false h, Bool.false_and]
    exact ⟨rfl, rfl⟩
theorem okP_size : ∀ (l : List ByteArray), okP l = true → ∀ y ∈ l, y.size ≤ 32
  | x :: r, h, y, hy => by
    rw [okP] at h
    by_cases hr : r = []
    · subst hr
      rw [if_pos rfl, decide_eq_true_eq] at h
      rw [List.mem_singleton.1 hy]; omega
    · rw [if_neg hr, Bool.and_eq_true, decide_eq_true_eq] at h
      rcases List.mem_cons.1 hy with rfl | hy
      · omega
      · exact okP_size r h.2 y hy
theorem root_one : ∀ (N : Nat) (l : List ByteArray), l.length ≤ N → l.length ≤ 64 → (∀ y ∈ l, y.size ≤ 32) → ∃ t, spec_l09Root.v l = some t ∧ impl_piecesRoot.v l = some t ∧ t.size = 32
  | 0, l, hN, h64, hy => by
    have : l = [] := List.length_eq_zero_iff.1 (by omega)
    subst this
    obtain ⟨t, h1, h2, h3⟩ := hash_one (⟨#[110, 111, 116, 104, 105, 110, 103]⟩ : ByteArray) (by decide)
    refine ⟨t, ?_, ?_, h3⟩
    · rw [spec_l09Root.v_eq, if_pos (show (([] : List ByteArray).length : Int) = 0 from rfl)]
      have : bytesOf (⟨#[110, 111, 116, 104, 105, 110, 103]⟩ : ByteArray) = [110, 111, 116, 104, 105, 110, 103] := by decide
      rw [← this, h1, Option.bind_some]
    · rw [impl_piecesRoot.v_eq, if_pos (show (([] : List ByteArray).length : Int) = 0 from rfl), h2, Option.bind_some]
  | N + 1, l, hN, h64, hy => by
    by_cases h0 : l.length = 0
    · exact root_one N l (by omega) h64 hy
    · by_cases h1 : l.length = 1
      · have hm : (rdOf ByteArray.empty l 0).size ≤ 32 := by
          have := rdOf_at l 0 (by omega)
          rw [show ((0 : Nat) : Int) = 0 from rfl] at this
          rw [this]; exact hy _ (List.getElem_mem _)
        obtain ⟨t, e1, e2, e3⟩ := leaf_one (rdOf ByteArray.empty l 0) (by omega)
        refine ⟨t, ?_, ?_, e3⟩
        · rw [spec_l09Root.v_eq, if_neg (by omega), if_pos (by omega), if_pos (by omega), e1, Option.bind_some]
        · rw [impl_piecesRoot.v_eq, if_neg (by omega), if_pos (by omega), if_pos (by omega), e2, Option.bind_some]
      · obtain ⟨r, r1, r2, r3, r4⟩ := half_one l.length (by omega)
        have r5 := r4 (by omega)
        obtain ⟨a, a1, a2, a3⟩ := root_one N (l.take r.toNat) (by rw [List.length_take]; omega) (by rw [List.length_take]; omega) (fun y h => hy y (List.mem_of_mem_take h))
        obtain ⟨b, b1, b2, b3⟩ := root_one N (l.drop r.toNat) (by rw [List.length_drop]; omega) (by rw [List.length_drop]; omega) (fun y h => hy y (List.mem_of_mem_drop h))
        obtain ⟨t, t1, t2, t3⟩ := node_any a b (by omega) (by omega)
        refine ⟨t, ?_, ?_, t3⟩
        · rw [spec_l09Root.v_eq, if_neg (by omega), if_neg (by omega), r1, Option.bind_some, if_pos (by omega), if_pos (by omega), a1, Option.bind_some, b1, Option.bind_some, t1, Option.bind_some]
        · rw [impl_piecesRoot.v_eq, if_neg (by omega), if_neg (by omega), r2, Option.bind_some, if_pos (by omega), if_pos (by omega), a2, Option.bind_some, b2, Option.bind_some, t2, Option.bind_some]
theorem root_eq (l : List ByteArray) (hz : sumz l ≤ 1048576) : ∃ r : ByteArray × Int, spec_PiecesRoot.v l = some r ∧ impl_PiecesRoot.v l = some r := by
  rw [spec_PiecesRoot.v_eq, impl_PiecesRoot.v_eq, impl_isLongList_string.v_eq, Option.bind_some]
  by_cases h : (l.length : Int) > 4096
  · rw [if_pos h]
    exact ⟨_, rfl, by simp [h]⟩
  · rw [if_neg h]
    obtain ⟨p1, p2⟩ := pieces_one l hz
    rw [p1, p2, if_neg (by simpa using h), Option.bind_some, Option.bind_some]
    cases hb : (decide (l.length ≤ 64) && okP l) with
    | false => exact ⟨_, rfl, rfl⟩
    | true =>
      rw [Bool.and_eq_true, decide_eq_true_eq] at hb
      obtain ⟨t, t1, t2, -⟩ := root_one l.length l (Nat.le_refl _) hb.1 (okP_size l hb.2)
      rw [if_pos rfl, if_pos rfl, t1, t2]
      exact ⟨_, rfl, rfl⟩
theorem FnExactPiecesRoot_pure (y0 : List ByteArray) : (y0.length ≤ 9223372036854775807 ∧ ∀ y ∈ y0, y.size ≤ 9223372036854775807) → laws_FnExactPiecesRoot.v y0 = some true := by
  intro h
  obtain ⟨t, e, ht⟩ := szT_v y0 h.1 h.2
  rw [laws_FnExactPiecesRoot.v_eq, e, Option.bind_some]
  by_cases h0 : t < 0
  · rw [if_pos h0]
  obtain ⟨hl, hz⟩ := ht h0
  obtain ⟨r, r1, r2⟩ := root_eq y0 hz
  simp only [if_neg h0, toS_v y0 hl, Option.bind_some, r1, r2, if_true, bne_self_eq_false, laws_FnExactPiecesRoot.jv0_eq, eqS_v y0 (show y0.length ≤ 281474976710656 by omega), Bool.false_eq_true, if_false]
end Go.Proofs.YtdpdbegglkdgnaaDoor.A
end
