/- A part of the proof that FnExactReadTable returns true at every input: plain functions, contracts and lemmas. No conditions. -/
import Derived.Test.YtioocldcdonlpaaQReadTableh
import Derived.Laws.Strings
set_option linter.unusedVariables false
set_option linter.unusedSimpArgs false
set_option linter.unusedSectionVars false
section
namespace Go.Proofs.YtioocldcdonlpaaW.PrintWords
open Go.RowKit
theorem wrap_id {x : Int} (h0 : -9223372036854775808 ≤ x) (h1 : x ≤ 9223372036854775807) : wrap64 x = x := by unfold wrap64; omega
/-- p at d places from i on. -/
def allB (p : Int → Bool) : Nat → Int → Bool
  | 0, _ => true
  | d + 1, i => p i && allB p d (i + 1)
def allI (p : Int → Bool) (i n : Int) : Bool := allB p (n - i).toNat i
theorem allI_step {p : Int → Bool} {i n : Int} (h : i < n) : allI p i n = (p i && allI p (i + 1) n) := by
  unfold allI
  obtain ⟨d, hd⟩ : ∃ d : Nat, (n - i).toNat = d + 1 := ⟨(n - i).toNat - 1, by omega⟩
  rw [hd, show (n - (i + 1)).toNat = d by omega]
  rfl
theorem allI_end {p : Int → Bool} {i n : Int} (h : n ≤ i) : allI p i n = true := by
  unfold allI
  rw [show (n - i).toNat = 0 by omega]
  rfl
theorem allI_iff (p : Int → Bool) (n : Int) : ∀ (d : Nat) (i : Int), (n - i).toNat = d → (allI p i n = true ↔ ∀ j, i ≤ j → j < n → p j = true)
  | 0, i, h => by
    rw [allI_end (by omega)]
    exact ⟨fun _ j h1 h2 => by omega, fun _ => rfl⟩
  | d + 1, i, h => by
    rw [allI_step (by omega), Bool.and_eq_true, allI_iff p n d (i + 1) (by omega)]
    refine ⟨fun ⟨h1, h2⟩ j h3 h4 => ?_, fun h1 => ⟨h1 i (by omega) (by omega), fun j h3 h4 => h1 j (by omega) h4⟩⟩
    by_cases e : j = i
    · rw [e]; exact h1
    · exact h2 j (by omega) h4
/-- A loop that asks p at each place. -/
theorem loop_all {L : Int → Option Bool} (p : Int → Bool) (n : Int) (hn : n ≤ 9223372036854775807) (hL : ∀ i, 0 ≤ i → i < n → L i = if p i = true then L (wrap64 (i + 1)) else some false) (hE : ∀ i, 0 ≤ i → n ≤ i → L i = some true) :
    ∀ (d : Nat) (i : Int), (n - i).toNat = d → 0 ≤ i → L i = some (allI p i n)
  | 0, i, h, h0 => by rw [hE i h0 (by omega), allI_end (by omega)]
  | d + 1, i, h, h0 => by
    rw [hL i h0 (by omega), allI_step (by omega), wrap_id (by omega) (by omega), loop_all p n hn hL hE d (i + 1) (by omega) (by omega)]
    cases p i <;> simp
def letterB (c : Int) : Bool := decide ((97 ≤ c ∧ c ≤ 122) ∨ (65 ≤ c ∧ c ≤ 90) ∨ c = 95)
def digitB (c : Int) : Bool := decide (48 ≤ c ∧ c ≤ 57)
def inB (n low high : Int) : Bool := decide (low ≤ n ∧ n ≤ high)
def nameB (s : ByteArray) : Bool := decide (1 ≤ s.size ∧ s.size ≤ 40) && (letterB (bt s 0) && allI (fun j => letterB (bt s j) || digitB (bt s j)) 1 s.size)
theorem strOf_size (l : List Int) : (strOfNums l).size = l.length := by
  show (strOfNums l).data.size = _
  simp [strOfNums]
theorem int_succ_mul (a c : Int) : a * c + c = (a + 1) * c := by rw [Int.add_mul, Int.one_mul]
theorem copy_loop {α β : Type} (d : α) (g : α → β) (l : List α) (hn : l.length ≤ 9223372036854775806) (L : List β → Int → Option (List β))
    (hL : ∀ acc i, 0 ≤ i → i < (l.length : Int) → acc.length = l.length → L acc i = L (acc.set i.toNat (g (l.getD i.toNat d))) (wrap64 (i + 1))) (hE : ∀ acc i, (l.length : Int) ≤ i → L acc i = some acc) :
    ∀ (n : Nat) (acc : List β) (i : Int), ((l.length : Int) - i).toNat = n → 0 ≤ i → i ≤ l.length → acc.length = l.length → (∀ j : Nat, j < i.toNat → acc[j]? = (l.map g)[j]?) → L acc i = some (l.map g)
  | 0, acc, i, h, h0, h1, ha, hj => by
    rw [hE acc i (by omega)]
    congr 1
    apply List.ext_getElem?
    intro j
    by_cases hjl : j < l.length
    · exact hj j (by omega)
    · rw [List.getElem?_eq_none (by omega), List.getElem?_eq_none (by simp; omega)]
  | n + 1, acc, i, h, h0, h1, ha, hj => by
    have hlt : i < (l.length : Int) := by omega
    rw [hL acc i h0 hlt ha, wrap_id (by omega) (by omega)]
    refine copy_loop d g l hn L hL hE n _ (i + 1) (by omega) (by omega) (by omega) (by simp [ha]) (fun j hj2 => ?_)
    by_cases e : j = i.toNat
    · subst e
      rw [List.getElem?_set_self (by omega), List.getElem?_map, List.getElem?_eq_getElem (by omega : i.toNat < l.length)]
      simp [List.getD, List.getElem?_eq_getElem (by omega : i.toNat < l.length)]
    · rw [List.getElem?_set_ne (by omega)]
      exact hj j (by omega)
theorem mark_loop {α : Type} (z : α) (g : α → Int → α) (c : Int) (hc : 0 ≤ c) (L : List α → Int → Int → Option (Int × List α))
    (hL : ∀ l k i, 0 ≤ i → i < (l.length : Int) → 0 ≤ k → k + c ≤ 4611686018427387904 → L l k i = L (l.set i.toNat (g (l.getD i.toNat z) k)) (k + c) (wrap64 (i + 1))) (hE : ∀ l k i, (l.length : Int) ≤ i → L l k i = some (k, l)) :
    ∀ (n : Nat) (l : List α) (k i : Int), ((l.length : Int) - i).toNat = n → 0 ≤ i → i ≤ l.length → (l.length : Int) ≤ 9223372036854775806 → 0 ≤ k → k + n * c ≤ 4611686018427387904 →
      ∃ l', L l k i = some (k + n * c, l') ∧ l'.length = l.length ∧ (∀ j : Nat, j < i.toNat → l'[j]? = l[j]?) ∧ (∀ j : Nat, i.toNat ≤ j → j < l.length → ∃ x, l'[j]? = some (g x (k + (j - i) * c)))
  | 0, l, k, i, h, h0, h1, hn, hk, hkn => ⟨l, by rw [hE l k i (by omega)]; simp, rfl, fun _ _ => rfl, fun j h2 h3 => by omega⟩
  | n + 1, l, k, i, h, h0, h1, hn, hk, hkn => by
    have hlt : i < (l.length : Int) := by omega
    have hm : ((n + 1 : Nat) : Int) * c = n * c + c := by rw [Int.natCast_add, Int.add_mul]; simp
    have hnc : 0 ≤ (n : Int) * c := Int.mul_nonneg (by omega) hc
    rw [hm] at hkn
    obtain ⟨l', e1, e2, e3, e4⟩ := mark_loop z g c hc L hL hE n (l.set i.toNat (g (l.getD i.toNat z) k)) (k + c) (i + 1) (by simp; omega) (by omega) (by simp; omega) (by simpa using hn) (by omega) (by omega)
    refine ⟨l', ?_, by simpa using e2, fun j hj => ?_, fun j h2 h3 => ?_⟩
    · rw [hL l k i h0 hlt hk (by omega), wrap_id (by omega) (by omega), e1, hm]
      congr 2
      omega
    · rw [e3 j (by omega), List.getElem?_set_ne (by omega)]
    · by_cases e : j = i.toNat
      · subst e
        refine ⟨l.getD i.toNat z, ?_⟩
        rw [e3 i.toNat (by omega), List.getElem?_set_self (by omega), show ((i.toNat : Int) - i) = 0 by omega]
        simp
      · obtain ⟨x, hx⟩ := e4 j (by omega) (by simpa using h3)
        refine ⟨x, ?_⟩
        rw [hx]
        congr 2
        have : ((j : Int) - (i + 1)) * c + c = (j - i) * c := by rw [int_succ_mul]; congr 1; omega
        omega
end Go.Proofs.YtioocldcdonlpaaW.PrintWords
end

section
namespace Go.Proofs.Ytioocldcdonlpaa.B
open Go.RowKit Go.Proofs.YtioocldcdonlpaaW.PrintWords
theorem toByteS_v (l : List Int) (h : l.length ≤ 281474976710656) : laws_toByteS.v l = some l := by
  rw [laws_toByteS.v_eq, if_pos (by omega), if_pos (by simpa using h)]
  have h1 := copy_loop (0 : Int) id l (by omega) (fun acc i => laws_toByteS.lv0 l acc i) (fun acc i h0 h1 h2 => by
    show laws_toByteS.lv0 l acc i = _
    rw [laws_toByteS.lv0_eq, if_pos h1, if_pos h0, if_pos (by omega)]; rfl) (fun acc i h0 => by
    show laws_toByteS.lv0 l acc i = _
    rw [laws_toByteS.lv0_eq, if_neg (by omega)]) l.length (List.replicate ((l.length : Int) : Int).toNat 0) 0 (by omega) (by omega) (by omega) (by simp) (fun j hj => by omega)
  rw [List.map_id] at h1
  exact h1
theorem eqByteS_v (l : List Int) (h : l.length ≤ 281474976710656) : laws_eqByteS.v l l = some true := by
  rw [laws_eqByteS.v_eq, if_pos rfl, loop_all (L := fun i => laws_eqByteS.lv0 l l i) (fun _ => true) l.length (by omega) (fun i h0 h1 => by
    show laws_eqByteS.lv0 l l i = _
    rw [laws_eqByteS.lv0_eq, if_pos h1, if_pos h0, if_pos h1, if_pos rfl]; rfl) (fun i h0 h1 => by
    show laws_eqByteS.lv0 l l i = _
    rw [laws_eqByteS.lv0_eq, if_neg (by omega)]) _ 0 rfl (by omega), (allI_iff _ _ _ _ rfl).2 (fun _ _ _ => rfl)]
theorem markByteS_v (l : List Int) (h : l.length ≤ 281474976710656) : ∃ l', laws_markByteS.v l 1 = some (1 + (l.length : Int), l') := by
  obtain ⟨l', h1, _⟩ := mark_loop (0 : Int) (fun _ k => k % 256) 1 (by omega) (fun l k i => laws_markByteS.lv0 l k i) (fun l k i h0 h1 h2 h3 => by
    show laws_markByteS.lv0 l k i = _
    rw [laws_markByteS.lv0_eq, if_pos h1, if_pos h0, wrap_id (x := k + 1) (by omega) (by omega)]) (fun l k i h0 => by
    show laws_markByteS.lv0 l k i = _
    rw [laws_markByteS.lv0_eq, if_neg (by omega)]) l.length l 1 0 (by omega) (by omega) (by omega) (by omega) (by omega) (by omega)
  exact ⟨l', by rw [laws_markByteS.v_eq]; simpa using h1⟩
theorem spec_l01In_v (n low high : Int) : spec_l01In.v n low high = some (inB n low high) := by
  rw [spec_l01In.v_eq]; unfold inB; split <;> simp <;> omega
theorem impl_within_v (n low high : Int) : impl_within.v n low high = some (inB n low high) := by
  rw [impl_within.v_eq]; unfold inB; split <;> simp <;> omega
theorem spec_l00Letter_v (c : Int) : spec_l00Letter.v c = some (letterB c) := by
  rw [spec_l00Letter.v_eq]; unfold letterB; repeat' split
  all_goals (congr 1; rw [Bool.eq_iff_iff]; simp <;> omega)
theorem impl_isLetter_v (c : Int) : impl_isLetter.v c = some (letterB c) := by
  rw [impl_isLetter.v_eq]; unfold letterB; repeat' split
  all_goals (congr 1; rw [Bool.eq_iff_iff]; simp <;> omega)
theorem spec_l00Digit_v (c : Int) : spec_l00Digit.v c = some (digitB c) := by
  rw [spec_l00Digit.v_eq]; unfold digitB; split <;> simp <;> omega
theorem spec_l00Word_l (s : ByteArray) (hs : s.size ≤ 9223372036854775807) (i : Int) (h : 0 ≤ i) : spec_l00Word.lv0 s i = some (allI (fun j => letterB (bt s j) || digitB (bt s j)) i s.size) := by
  refine loop_all _ s.size (by omega) (fun i h0 h1 => ?_) (fun i h0 h1 => ?_) _ i rfl h
  · rw [spec_l00Word.lv0_eq, if_pos h1, if_pos h0, spec_l00Letter_v, spec_l00Digit_v]
    simp only [Option.bind_some]
    cases letterB (bt s i) <;> cases digitB (bt s i) <;> simp
  · rw [spec_l00Word.lv0_eq, if_neg (by omega)]
theorem impl_NameOK_l (s : ByteArray) (hs : s.size ≤ 9223372036854775807) (i : Int) (h : 0 ≤ i) : impl_NameOK.lv0 s s.size i = some (allI (fun j => letterB (bt s j) || digitB (bt s j)) i s.size) := by
  refine loop_all (L := fun i => impl_NameOK.lv0 s s.size i) _ s.size (by omega) (fun i h0 h1 => ?_) (fun i h0 h1 => ?_) _ i rfl h
  · rw [impl_NameOK.lv0_eq, if_pos h1, if_pos h0, if_pos h1, impl_isLetter_v]
    simp only [Option.bind_some]
    cases letterB (bt s i) <;> simp [digitB]
    by_cases h2 : bt s i < 48
    · simp [h2, show ¬ 48 ≤ bt s i by omega]
    · by_cases h3 : 57 < bt s i
      · simp [h2, h3, show ¬ bt s i ≤ 57 by omega]
      · simp [h2, h3, show 48 ≤ bt s i by omega, show bt s i ≤ 57 by omega]
  · rw [impl_NameOK.lv0_eq, if_neg (by omega)]
theorem spec_NameOK_v (s : ByteArray) (hs : s.size ≤ 9223372036854775807) : spec_NameOK.v s = some (nameB s) := by
  rw [spec_NameOK.v_eq, spec_l00Word.v_eq]
  simp only [spec_l00Letter_v, spec_l00Word.jv0_eq, spec_l00Word_l s hs 1 (by omega), Option.bind_some, nameB]
  by_cases h1 : (s.size : Int) < 1
  · simp [h1]; omega
  · by_cases h2 : (s.size : Int) > 40
    · simp [h1, h2]; omega
    · simp only [if_neg h1, if_neg h2, if_pos (show 0 < (s.size : Int) by omega), Option.bind_some, show (1 ≤ s.size ∧ s.size ≤ 40) = True by simp; omega]
      cases letterB (bt s 0) <;> simp
theorem impl_NameOK_v (s : ByteArray) (hs : s.size ≤ 9223372036854775807) : impl_NameOK.v s = some (nameB s) := by
  rw [impl_NameOK.v_eq]
  simp only [impl_isLetter_v, impl_NameOK.jv0_eq, impl_NameOK_l s hs 0 (by omega), Option.bind_some, nameB]
  by_cases h1 : (s.size : Int) < 1
  · simp [h1]; omega
  · by_cases h2 : (s.size : Int) > 40
    · simp [h1, h2]; omega
    · simp only [if_neg h1, if_neg h2, if_pos (show 0 < (s.size : Int) by omega), Option.bind_some, show (1 ≤ s.size ∧ s.size ≤ 40) = True by simp; omega]
      rw [allI_step (i := 0) (by omega)]
      cases letterB (bt s 0) <;> simp
theorem spec_l02Text_v (s : ByteArray) (n : Int) (hs : s.size ≤ 9223372036854775807) : spec_l02Text.v s n = some (decide ((s.size : Int) ≤ n) && nameB s) := by
  rw [spec_l02Text.v_eq, spec_l01In_v, spec_NameOK_v s hs]
  simp only [Option.bind_some, inB]
  by_cases h : (1 : Int) ≤ s.size ∧ (s.size : Int) ≤ n
  · simp [h]
  · by_cases h2 : (s.size : Int) ≤ n
    · simp [h, h2, nameB, show ¬ (1 ≤ s.size) by omega]
    · simp [h, h2]
theorem impl_isOpName_v (s : ByteArray) (hs : s.size ≤ 9223372036854775807) : impl_isOpName.v s = some (decide ((s.size : Int) ≤ 12) && nameB s) := by
  rw [impl_isOpName.v_eq, impl_NameOK_v s hs]
  by_cases h : (s.size : Int) ≤ 12 <;> simp [h]
theorem loop_to {L : Int → Option Bool} (p : Int → Bool) (n : Int) (E : Option Bool) (hn : n ≤ 9223372036854775807) (hL : ∀ i, 0 ≤ i → i < n → L i = if p i = true then L (wrap64 (i + 1)) else some false) (hE : ∀ i, 0 ≤ i → n ≤ i → L i = E) :
    ∀ (d : Nat) (i : Int), (n - i).toNat = d → 0 ≤ i → L i = if allI p i n = true then E else some false
  | 0, i, h, h0 => by rw [hE i h0 (by omega), allI_end (by omega), if_pos rfl]
  | d + 1, i, h, h0 => by
    rw [hL i h0 (by omega), allI_step (by omega), wrap_id (by omega) (by omega), loop_to p n E hn hL hE d (i + 1) (by omega) (by omega)]
    cases p i <;> simp
def answerB (a b c d : Int) : Bool := inB a 1 8 && (inB b 0 1000000 && (inB c (-1) 255 && inB d 0 2000000000))
theorem spec_answer_v (a b c d : Int) : spec_l05Answer.v a b c d = some (answerB a b c d) := by
  rw [spec_l05Answer.v_eq]
  simp only [spec_l01In_v, Option.bind_some]
  unfold answerB
  cases inB a 1 8 <;> cases inB b 0 1000000 <;> cases inB c (-1) 255 <;> simp
theorem impl_answer_v (a b c d : Int) : impl_isAnswer.v a b c d = some (answerB a b c d) := by
  rw [impl_isAnswer.v_eq]
  simp only [impl_within_v, Option.bind_some]
  unfold answerB
  cases inB a 1 8 <;> cases inB b 0 1000000 <;> cases inB c (-1) 255 <;> simp
def waitB (h : Int) (ws : List S80) (k : Int) : Bool := inB (rd_T80 ws k).f0 0 255 && (inB (rd_T80 ws k).f1 1 1000 && (!((rd_T80 ws k).f0 == h) && allI (fun j => !((rd_T80 ws j).f0 == (rd_T80 ws k).f0)) 0 k))
def waitsB (h : Int) (ws : List S80) : Bool := allI (waitB h ws) 0 ws.length
def lockB (b : Int) (x : S78) : Bool := (decide ((x.f0.size : Int) ≤ 12) && nameB x.f0) && (inB x.f1 0 (wrap64 (b - 1)) && (inB x.f2 (-1) 255 && (inB x.f3 0 2000000000 && (decide ((x.f4.length : Int) ≤ 4) && (!(decide (x.f2 < 0) && !(decide (x.f3 = 0) && decide ((x.f4.length : Int) = 0))) && waitsB x.f2 x.f4)))))
def lessB (l : List S78) (i : Int) : Bool := !(decide (i > 0)) || Op.bytesLess (rd_T78 l (i - 1)).f0.toList (rd_T78 l i).f0.toList
def seenB (m : List S84) (i : Int) : Bool := inB (rd_T84 m i).f0 0 255 && (inB (rd_T84 m i).f1 1 65535 && (answerB (rd_T84 m i).f2.f0 (rd_T84 m i).f2.f1 (rd_T84 m i).f2.f2 (rd_T84 m i).f2.f3 && (!(decide (i > 0)) || !(decide ((rd_T84 m (i - 1)).f0 ≥ (rd_T84 m i).f0)))))
def tableB (a b : Int) (l : List S78) (m : List S84) : Bool := inB a 0 1000000000 && (inB b 1 1000000 && (decide ((l.length : Int) ≤ 4) && (decide ((m.length : Int) ≤ 6) && (allI (fun i => lockB b (rd_T78 l i) && lessB l i) 0 l.length && allI (seenB m) 0 m.length))))
theorem rdW_at (ws : List S80) (k : Nat) (h : k < ws.length) : rd_T80 ws (k : Int) = ws[k] := by
  unfold rd_T80
  rw [List.getD_eq_getElem?_getD, Int.toNat_natCast, List.getElem?_eq_getElem h]
  rfl
theorem rdL_mem (l : List S78) (i : Int) (h0 : 0 ≤ i) (h1 : i < l.length) : rd_T78 l i ∈ l := by
  unfold rd_T78
  rw [List.getD_eq_getElem?_getD, List.getElem?_eq_getElem (by omega : i.toNat < l.length)]
  exact List.getElem_mem _
/-- The place of the first waiter of that client lies ahead exactly when one of those ahead is that client. -/
theorem wIdx_lt (ws : List S80) (k : Int) (h0 : 0 ≤ k) (h1 : k < ws.length) : decide (wIdx ws (rd_T80 ws k).f0 < k) = !(allI (fun j => !((rd_T80 ws j).f0 == (rd_T80 ws k).f0)) 0 k) := by
  obtain ⟨n, rfl⟩ : ∃ n : Nat, k = (n : Int) := ⟨k.toNat, by omega⟩
  have hn : n < ws.length := by omega
  rw [rdW_at ws n hn]
  have hs : ∃ i, ws.findIdx? (fun y => y.f0 == ws[n].f0) = some i := by
    cases hf : ws.findIdx? (fun y => y.f0 == ws[n].f0) with
    | some i => exact ⟨i, rfl⟩
    | none =>
      have := List.findIdx?_eq_none_iff.1 hf ws[n] (List.getElem_mem _)
      simp at this
  obtain ⟨i, hi⟩ := hs
  obtain ⟨hil, hip, hij⟩ := List.findIdx?_eq_some_iff_getElem.1 hi
  have hw : wIdx ws ws[n].f0 = (i : Int) := by unfold wIdx; rw [hi]
  rw [hw]
  by_cases c : i < n
  · rw [decide_eq_true (by omega)]
    have : allI (fun j => !((rd_T80 ws j).f0 == ws[n].f0)) 0 (n : Int) = false := by
      cases ha : allI (fun j => !((rd_T80 ws j).f0 == ws[n].f0)) 0 (n : Int) with
      | false => rfl
      | true =>
        have := (allI_iff _ (n : Int) _ 0 rfl).1 ha (i : Int) (by omega) (by omega)
        rw [rdW_at ws i hil, hip] at this
        cases this
    rw [this]
    rfl
  · rw [decide_eq_false (by omega)]
    have : allI (fun j => !((rd_T80 ws j).f0 == ws[n].f0)) 0 (n : Int) = true := by
      refine (allI_iff _ (n : Int) _ 0 rfl).2 fun j h2 h3 => ?_
      obtain ⟨m, rfl⟩ : ∃ m : Nat, j = (m : Int) := ⟨j.toNat, by omega⟩
      have hm := hij m (by omega)
      rw [rdW_at ws m (by omega)]
      simpa using hm
    rw [this]
    rfl
theorem impl_waits_l (ws : List S80) (a : ByteArray) (b h e : Int) (hw : (ws.length : Int) ≤ 9223372036854775807) : impl_isLock.lv0 ws (ws.length : Int) 0 a b h e ws = some (waitsB h ws) := by
  have := loop_all (L := fun i => impl_isLock.lv0 ws (ws.length : Int) i a b h e ws) (waitB h ws) ws.length hw (fun i h0 h1 => by
    show impl_isLock.lv0 _ _ _ _ _ _ _ _ = _
    rw [impl_isLock.lv0_eq, if_pos h1, if_pos h0, if_pos h1]
    simp only [impl_within_v, impl_Lock_waits.v_eq, Option.bind_some]
    have hx := wIdx_lt ws i h0 h1
    unfold waitB
    by_cases c : wIdx ws (rd_T80 ws i).f0 < i
    · rw [decide_eq_true c] at hx
      have hx : allI (fun j => !((rd_T80 ws j).f0 == (rd_T80 ws i).f0)) 0 i = false := by simpa using hx
      rw [hx, if_pos c]
      cases inB (rd_T80 ws i).f0 0 255 <;> cases inB (rd_T80 ws i).f1 1 1000 <;> by_cases q : (rd_T80 ws i).f0 = h <;> simp [q]
    · rw [decide_eq_false c] at hx
      have hx : allI (fun j => !((rd_T80 ws j).f0 == (rd_T80 ws i).f0)) 0 i = true := by simpa using hx
      rw [hx, if_neg c]
      cases inB (rd_T80 ws i).f0 0 255 <;> cases inB (rd_T80 ws i).f1 1 1000 <;> by_cases q : (rd_T80 ws i).f0 = h <;> simp [q]) (fun i _ h1 => by
    show impl_isLock.lv0 _ _ _ _ _ _ _ _ = _
    rw [impl_isLock.lv0_eq, if_neg (by omega)]) _ 0 rfl (by omega)
  exact this
theorem impl_lock_v (x : S78) (b : Int) (hs : x.f0.size ≤ 9223372036854775807) (hw : (x.f4.length : Int) ≤ 9223372036854775807) : impl_isLock.v x.f0 x.f1 x.f2 x.f3 x.f4 b = some (lockB b x) := by
  rw [impl_isLock.v_eq, impl_isOpName_v x.f0 hs]
  simp only [impl_within_v, Option.bind_some, impl_isLock.jv0_eq, impl_isLock.jv1_eq, impl_waits_l x.f4 x.f0 x.f1 x.f2 x.f3 hw]
  unfold lockB
  cases (decide ((x.f0.size : Int) ≤ 12) && nameB x.f0)
  · simp
  cases inB x.f1 0 (wrap64 (b - 1))
  · simp
  cases h2 : inB x.f2 (-1) 255
  · simp
  cases inB x.f3 0 2000000000
  · simp
  have h2 := of_decide_eq_true h2
  by_cases c4 : (x.f4.length : Int) > 4
  · rw [decide_eq_true c4, decide_eq_false (show ¬ (x.f4.length : Int) ≤ 4 by omega)]
    simp
  · rw [decide_eq_false c4, decide_eq_true (show (x.f4.length : Int) ≤ 4 by omega)]
    simp only [if_true, Bool.true_and, Bool.false_eq_true, if_false]
    by_cases c2 : x.f2 = -1
    · rw [if_pos c2, decide_eq_true (show x.f2 < 0 by omega)]
      by_cases c3 : x.f3 = 0
      · rw [if_pos c3, decide_eq_true c3]
        by_cases c0 : (x.f4.length : Int) = 0
        · rw [decide_eq_true c0, decide_eq_false (show ¬ (x.f4.length : Int) > 0 by omega)]
          simp
        · rw [decide_eq_false c0, decide_eq_true (show (x.f4.length : Int) > 0 by omega)]
          simp
      · rw [if_neg c3, decide_eq_false c3]
        simp
    · rw [if_neg c2, decide_eq_false (show ¬ x.f2 < 0 by omega)]
      simp
theorem impl_seens_l (m : List S84) (a b : Int) (l : List S78) (hm : (m.length : Int) ≤ 9223372036854775807) : impl_TableOK.lv1 m (m.length : Int) 0 a b l m = some (allI (seenB m) 0 m.length) := by
  have := loop_all (L := fun i => impl_TableOK.lv1 m (m.length : Int) i a b l m) (seenB m) m.length hm (fun i h0 h1 => by
    show impl_TableOK.lv1 _ _ _ _ _ _ _ = _
    rw [impl_TableOK.lv1_eq, if_pos h1, if_pos h0, if_pos h1]
    simp only [impl_within_v, impl_answer_v, Option.bind_some]
    unfold seenB
    cases inB (rd_T84 m i).f0 0 255
    · simp
    cases inB (rd_T84 m i).f1 1 65535
    · simp
    cases answerB (rd_T84 m i).f2.f0 (rd_T84 m i).f2.f1 (rd_T84 m i).f2.f2 (rd_T84 m i).f2.f3
    · simp
    by_cases c : i > 0
    · have w : wrap64 (i - 1) = i - 1 := wrap_id (by omega) (by omega)
      rw [w]
      clear w
      have g0 : 0 ≤ i - 1 := by omega
      have g1 : i - 1 < (m.length : Int) := by omega
      simp only [c, g0, g1, if_true, decide_true, Bool.not_true, Bool.false_or, Bool.true_and]
      by_cases q : (rd_T84 m (i - 1)).f0 ≥ (rd_T84 m i).f0
      · simp [q]
      · simp [q]
    · simp [c]) (fun i _ h1 => by
    show impl_TableOK.lv1 _ _ _ _ _ _ _ = _
    rw [impl_TableOK.lv1_eq, if_neg (by omega)]) _ 0 rfl (by omega)
  exact this
theorem spec_seens_l (m : List S84) (a b : Int) (l : List S78) (hm : (m.length : Int) ≤ 9223372036854775807) : spec_TableOK.lv3 0 a b l m = some (allI (seenB m) 0 m.length) := by
  have := loop_all (L := fun i => spec_TableOK.lv3 i a b l m) (seenB m) m.length hm (fun i h0 h1 => by
    show spec_TableOK.lv3 _ _ _ _ _ = _
    rw [spec_TableOK.lv3_eq, if_pos h1, if_pos h0]
    simp only [spec_l01In_v, spec_answer_v, Option.bind_some]
    unfold seenB
    cases inB (rd_T84 m i).f0 0 255
    · simp
    cases inB (rd_T84 m i).f1 1 65535
    · simp
    cases answerB (rd_T84 m i).f2.f0 (rd_T84 m i).f2.f1 (rd_T84 m i).f2.f2 (rd_T84 m i).f2.f3
    · simp
    by_cases c : i > 0
    · have w : wrap64 (i - 1) = i - 1 := wrap_id (by omega) (by omega)
      rw [w]
      clear w
      have g0 : 0 ≤ i - 1 := by omega
      have g1 : i - 1 < (m.length : Int) := by omega
      simp only [c, g0, g1, if_true, decide_true, Bool.not_true, Bool.false_or, Bool.true_and]
      by_cases q : (rd_T84 m (i - 1)).f0 ≥ (rd_T84 m i).f0
      · simp [q]
      · simp [q]
    · simp [c]) (fun i _ h1 => by
    show spec_TableOK.lv3 _ _ _ _ _ = _
    rw [spec_TableOK.lv3_eq, if_neg (by omega)]) _ 0 rfl (by omega)
  exact this
theorem impl_locks_l (a b : Int) (l : List S78) (m : List S84) (hl : (l.length : Int) ≤ 9223372036854775807) (hm : (m.length : Int) ≤ 9223372036854775807) (hs : ∀ x ∈ l, x.f0.size ≤ 9223372036854775807 ∧ (x.f4.length : Int) ≤ 9223372036854775807) :
    impl_TableOK.lv0 l (l.length : Int) 0 a b l m = some (allI (fun i => lockB b (rd_T78 l i) && lessB l i) 0 l.length && allI (seenB m) 0 m.length) := by
  have := loop_to (L := fun i => impl_TableOK.lv0 l (l.length : Int) i a b l m) (fun i => lockB b (rd_T78 l i) && lessB l i) l.length (some (allI (seenB m) 0 m.length)) hl (fun i h0 h1 => by
    show impl_TableOK.lv0 _ _ _ _ _ _ _ = _
    have hx := hs _ (rdL_mem l i h0 h1)
    rw [impl_TableOK.lv0_eq, if_pos h1, if_pos h0, if_pos h1, impl_lock_v (rd_T78 l i) b hx.1 hx.2, Option.bind_some]
    unfold lessB
    cases lockB b (rd_T78 l i)
    · simp
    by_cases c : i > 0
    · have w : wrap64 (i - 1) = i - 1 := wrap_id (by omega) (by omega)
      rw [w]
      clear w
      rw [if_pos rfl, if_pos c, if_pos (by omega), if_pos (by omega), decide_eq_true c]
      cases Op.bytesLess (rd_T78 l (i - 1)).f0.toList (rd_T78 l i).f0.toList <;> simp
    · rw [if_pos rfl, if_neg c, decide_eq_false c]
      simp) (fun i _ h1 => by
    show impl_TableOK.lv0 _ _ _ _ _ _ _ = _
    rw [impl_TableOK.lv0_eq, if_neg (by omega), impl_seens_l m a b l hm]) _ 0 rfl (by omega)
  refine this.trans ?_
  cases allI (fun i => lockB b (rd_T78 l i) && lessB l i) 0 (l.length : Int) <;> simp
theorem impl_tableOK_v (a b : Int) (l : List S78) (m : List S84) (hl : (l.length : Int) ≤ 9223372036854775807) (hm : (m.length : Int) ≤ 9223372036854775807) (hs : ∀ x ∈ l, x.f0.size ≤ 9223372036854775807 ∧ (x.f4.length : Int) ≤ 9223372036854775807) : impl_TableOK.v a b l m = some (tableB a b l m) := by
  rw [impl_TableOK.v_eq]
  simp only [impl_within_v, Option.bind_some, impl_TableOK.jv0_eq, impl_locks_l a b l m hl hm hs]
  unfold tableB
  cases inB a 0 1000000000
  · simp
  cases inB b 1 1000000
  · simp
  by_cases c4 : (l.length : Int) > 4
  · rw [decide_eq_false (show ¬ (l.length : Int) ≤ 4 by omega)]
    simp [c4]
  · rw [decide_eq_true (show (l.length : Int) ≤ 4 by omega), if_pos rfl, if_pos rfl, if_neg c4]
    by_cases c6 : (m.length : Int) > 6
    · rw [decide_eq_true c6, decide_eq_false (show ¬ (m.length : Int) ≤ 6 by omega)]
      simp
    · rw [decide_eq_false c6, decide_eq_true (show (m.length : Int) ≤ 6 by omega)]
      simp
theorem spec_same_l (i3 a b : Int) (l : List S78) (m : List S84) (n : ByteArray) (t h e : Int) (ws : List S80) (k : Int) (c d : Int) (h0 : 0 ≤ k) (h1 : k < ws.length) (hw : (ws.length : Int) ≤ 9223372036854775807) :
    spec_TableOK.lv2 i3 k 0 a b l m n t h e ws c d = if allI (fun j => !((rd_T80 ws j).f0 == c)) 0 k = true then spec_TableOK.lv1 i3 (wrap64 (k + 1)) a b l m n t h e ws else some false :=
  loop_to (L := fun j => spec_TableOK.lv2 i3 k j a b l m n t h e ws c d) (fun j => !((rd_T80 ws j).f0 == c)) k _ (by omega) (fun j h2 h3 => by
    show spec_TableOK.lv2 _ _ _ _ _ _ _ _ _ _ _ _ _ _ = _
    rw [spec_TableOK.lv2_eq, if_pos h3, if_pos h2, if_pos (by omega)]
    by_cases q : (rd_T80 ws j).f0 = c <;> simp [q]) (fun j _ h3 => by
    show spec_TableOK.lv2 _ _ _ _ _ _ _ _ _ _ _ _ _ _ = _
    rw [spec_TableOK.lv2_eq, if_neg (by omega)]) _ 0 rfl (by omega)
theorem spec_waits_l (i3 a b : Int) (l : List S78) (m : List S84) (n : ByteArray) (t h e : Int) (ws : List S80) (hw : (ws.length : Int) ≤ 9223372036854775807) :
    spec_TableOK.lv1 i3 0 a b l m n t h e ws = if waitsB h ws = true then spec_TableOK.lv0 (wrap64 (i3 + 1)) a b l m else some false :=
  loop_to (L := fun k => spec_TableOK.lv1 i3 k a b l m n t h e ws) (waitB h ws) ws.length _ hw (fun k h0 h1 => by
    show spec_TableOK.lv1 _ _ _ _ _ _ _ _ _ _ _ = _
    rw [spec_TableOK.lv1_eq, if_pos h1, if_pos h0]
    simp only [spec_l01In_v, Option.bind_some, spec_TableOK.jv5_eq, spec_same_l i3 a b l m n t h e ws k _ _ h0 h1 hw]
    unfold waitB
    cases inB (rd_T80 ws k).f0 0 255
    · simp
    cases inB (rd_T80 ws k).f1 1 1000
    · simp
    by_cases q : (rd_T80 ws k).f0 = h <;> simp [q]) (fun k _ h1 => by
    show spec_TableOK.lv1 _ _ _ _ _ _ _ _ _ _ _ = _
    rw [spec_TableOK.lv1_eq, if_neg (by omega)]) _ 0 rfl (by omega)
theorem spec_lock_s (i a b : Int) (l : List S78) (m : List S84) (x : S78) (hw : (x.f4.length : Int) ≤ 9223372036854775807) :
    spec_TableOK.jv2 i (decide ((x.f4.length : Int) > 4)) a b l m x.f0 x.f1 x.f2 x.f3 x.f4 = if (decide ((x.f4.length : Int) ≤ 4) && (!(decide (x.f2 < 0) && !(decide (x.f3 = 0) && decide ((x.f4.length : Int) = 0))) && waitsB x.f2 x.f4)) = true then spec_TableOK.lv0 (wrap64 (i + 1)) a b l m else some false := by
  simp only [spec_TableOK.jv2_eq, spec_TableOK.jv3_eq, spec_waits_l i a b l m x.f0 x.f1 x.f2 x.f3 x.f4 hw]
  by_cases c4 : (x.f4.length : Int) > 4
  · have d4 : ¬ (x.f4.length : Int) ≤ 4 := by omega
    simp [c4, d4]
  · have d4 : (x.f4.length : Int) ≤ 4 := by omega
    by_cases c2 : x.f2 < 0
    · by_cases c3 : x.f3 = 0
      · by_cases c0 : (x.f4.length : Int) = 0
        · have e4 : ¬ ((0 : Int) > 4) := by decide
          have f4 : (0 : Int) ≤ 4 := by decide
          simp only [c2, c3, c0, e4, f4, decide_true, decide_false, if_true, Bool.true_and, Bool.not_true, Bool.and_false, Bool.false_and, Bool.and_true, Bool.not_false, bne_self_eq_false, Bool.false_eq_true, if_false]
        · have e0 : ((x.f4.length : Int) != 0) = true := by simpa using c0
          simp only [c4, d4, c2, c3, c0, e0, decide_true, decide_false, if_true, Bool.true_and, Bool.and_false, Bool.not_true, Bool.not_false, Bool.false_and, Bool.and_true, Bool.false_eq_true, if_false]
      · simp only [c4, d4, c2, c3, decide_true, decide_false, if_true, Bool.true_and, Bool.and_false, Bool.not_true, Bool.not_false, Bool.false_and, Bool.and_true, Bool.false_eq_true, if_false]
    · simp only [c4, d4, c2, decide_true, decide_false, if_true, Bool.true_and, Bool.and_false, Bool.not_true, Bool.not_false, Bool.false_and, Bool.and_true, Bool.false_eq_true, if_false]
theorem spec_lock_t (i a b : Int) (l : List S78) (m : List S84) (n : ByteArray) (t h e : Int) (ws : List S80) : spec_TableOK.jv2 i true a b l m n t h e ws = some false := by rw [spec_TableOK.jv2_eq, if_pos rfl]
theorem spec_locks_l (a b : Int) (l : List S78) (m : List S84) (hl : (l.length : Int) ≤ 9223372036854775807) (hm : (m.length : Int) ≤ 9223372036854775807) (hs : ∀ x ∈ l, x.f0.size ≤ 9223372036854775807 ∧ (x.f4.length : Int) ≤ 9223372036854775807) :
    spec_TableOK.lv0 0 a b l m = some (allI (fun i => lockB b (rd_T78 l i) && lessB l i) 0 l.length && allI (seenB m) 0 m.length) := by
  have := loop_to (L := fun i => spec_TableOK.lv0 i a b l m) (fun i => lockB b (rd_T78 l i) && lessB l i) l.length (some (allI (seenB m) 0 m.length)) hl (fun i h0 h1 => by
    show spec_TableOK.lv0 _ _ _ _ _ = _
    have hx := hs _ (rdL_mem l i h0 h1)
    rw [spec_TableOK.lv0_eq, if_pos h1, if_pos h0]
    simp only [spec_l02Text_v _ 12 hx.1, spec_l01In_v, Option.bind_some, spec_lock_t, spec_lock_s i a b l m _ hx.2]
    unfold lockB lessB
    have k0 : (0 : Int) ≤ i := h0
    generalize rd_T78 l i = x
    cases (decide ((x.f0.size : Int) ≤ 12) && nameB x.f0)
    · simp
    by_cases c : i > 0
    · have w : wrap64 (i - 1) = i - 1 := wrap_id (by omega) (by omega)
      have g0 : 0 ≤ i - 1 := by omega
      have g1 : i - 1 < (l.length : Int) := by omega
      rw [w]
      simp only [c, g0, g1, if_true, decide_true, Bool.not_true, Bool.false_or, Bool.true_and]
      cases Op.bytesLess (rd_T78 l (i - 1)).f0.toList x.f0.toList
      · simp
      cases inB x.f1 0 (wrap64 (b - 1))
      · simp
      cases inB x.f2 (-1) 255
      · simp
      cases inB x.f3 0 2000000000
      · simp
      simp only [if_true, Bool.true_and, Bool.and_true]
    · simp only [c, if_true, if_false, decide_false, Bool.not_false, Bool.true_or, Bool.true_and, Bool.and_true]
      cases inB x.f1 0 (wrap64 (b - 1))
      · simp
      cases inB x.f2 (-1) 255
      · simp
      cases inB x.f3 0 2000000000
      · simp
      simp only [if_true, Bool.true_and, Bool.and_true]) (fun i _ h1 => by
    show spec_TableOK.lv0 _ _ _ _ _ = _
    rw [spec_TableOK.lv0_eq, if_neg (by omega), spec_seens_l m a b l hm]) _ 0 rfl (by omega)
  refine this.trans ?_
  cases allI (fun i => lockB b (rd_T78 l i) && lessB l i) 0 (l.length : Int) <;> simp
theorem spec_tableOK_v (a b : Int) (l : List S78) (m : List S84) (hl : (l.length : Int) ≤ 9223372036854775807) (hm : (m.length : Int) ≤ 9223372036854775807) (hs : ∀ x ∈ l, x.f0.size ≤ 9223372036854775807 ∧ (x.f4.length : Int) ≤ 9223372036854775807) : spec_TableOK.v a b l m = some (tableB a b l m) := by
  rw [spec_TableOK.v_eq]
  simp only [spec_l01In_v, Option.bind_some, spec_TableOK.jv0_eq, spec_locks_l a b l m hl hm hs]
  unfold tableB
  cases inB a 0 1000000000
  · simp
  cases inB b 1 1000000
  · simp
  by_cases c4 : (l.length : Int) > 4
  · rw [decide_eq_false (show ¬ (l.length : Int) ≤ 4 by omega)]
    simp [c4]
  · rw [decide_eq_true (show (l.length : Int) ≤ 4 by omega), if_pos rfl, if_pos rfl, if_neg c4]
    by_cases c6 : (m.length : Int) > 6
    · rw [decide_eq_true c6, decide_eq_false (show ¬ (m.length : Int) ≤ 6 by omega)]
      simp
    · rw [decide_eq_false c6, decide_eq_true (show (m.length : Int) ≤ 6 by omega)]
      simp
def numL (l : List Int) : Int := l.foldl (fun n c => n * 256 + c) 0
def numM (s : ByteArray) : Int := numL (bytesOf s)
theorem or_byte (n c : Int) (h0 : 0 ≤ n) (h1 : n < 4503599627370496) (h2 : 0 ≤ c) (h3 : c < 256) : Go.bits .or .i64 (wrap64 (n * 256)) (wrap64 c) = n * 256 + c := by
  rw [wrap_id (by omega) (by omega), wrap_id (by omega) (by omega)]
  exact Go.bits_join .i64 62 (by decide) (fun n h0 h1 => by rw [IntKind.wrap_i64]; omega) 8 (n * 256) c (by omega) (by omega) (by omega) (by omega) (by omega) (by omega)
theorem bytesOf_rd (s : ByteArray) (i : Int) (h0 : 0 ≤ i) (h1 : i < s.size) : rd (bytesOf s) i = bt s i := by
  unfold rd bt
  rw [dif_pos (by omega)]
  unfold bytesOf
  rw [List.getD, List.getElem?_map, List.getElem?_eq_getElem (by rw [Array.length_toList]; show _ < s.size; omega)]
  simp
  rfl
theorem bytesOf_range (s : ByteArray) : ∀ c ∈ bytesOf s, 0 ≤ c ∧ c ≤ 255 := by
  intro c hc
  unfold bytesOf at hc
  obtain ⟨b, _, rfl⟩ := List.mem_map.1 hc
  have := b.toNat_lt
  omega
theorem foldl_range (l : List Int) : ∀ (n : Int), (∀ c ∈ l, 0 ≤ c ∧ c ≤ 255) → 0 ≤ n → 0 ≤ l.foldl (fun n c => n * 256 + c) n ∧ l.foldl (fun n c => n * 256 + c) n < (n + 1) * 256 ^ l.length := by
  induction l with
  | nil => intro n _ hn; simp; omega
  | cons c l ih =>
    intro n h hn
    have h1 := h c (by simp)
    obtain ⟨h2, h3⟩ := ih (n * 256 + c) (fun x hx => h x (by simp [hx])) (by omega)
    refine ⟨h2, ?_⟩
    simp only [List.foldl_cons, List.length_cons]
    refine Int.lt_of_lt_of_le h3 ?_
    rw [Int.pow_succ, Int.mul_comm (256 ^ l.length) 256, ← Int.mul_assoc]
    exact Int.mul_le_mul_of_nonneg_right (by omega) (Int.pow_nonneg (by omega))
theorem numM_range (s : ByteArray) : 0 ≤ numM s ∧ numM s < 256 ^ s.size := by
  have h := foldl_range (bytesOf s) 0 (bytesOf_range s) (by omega)
  rw [bytesOf_length] at h
  simpa [numM, numL] using h
theorem impl_number_l (s : ByteArray) (hs : s.size ≤ 6) (t : ByteArray) (b : Bool) : ∀ (d i : Nat), s.size - i = d → i ≤ s.size → ∀ n : Int, n = numL ((bytesOf s).take i) → impl_reader_number.lv0 n (bytesOf s) ((bytesOf s).length : Int) i t b = some (numM s, t, b)
  | 0, i, h, hi, n, hn => by
    rw [impl_reader_number.lv0_eq, if_neg (by rw [bytesOf_length]; omega), hn, List.take_of_length_le (by rw [bytesOf_length]; omega)]; rfl
  | d + 1, i, h, hi, n, hn => by
    have hlt : i < s.size := by omega
    have hr := foldl_range ((bytesOf s).take i) 0 (fun c hc => bytesOf_range s c (List.mem_of_mem_take hc)) (by omega)
    have hlen : ((bytesOf s).take i).length = i := by rw [List.length_take, bytesOf_length]; omega
    rw [hlen] at hr
    have hp : (256 : Int) ^ i ≤ 256 ^ 5 := by
      have h5 : i = 0 ∨ i = 1 ∨ i = 2 ∨ i = 3 ∨ i = 4 ∨ i = 5 := by omega
      rcases h5 with rfl | rfl | rfl | rfl | rfl | rfl <;> decide
    have hn2 : 0 ≤ n ∧ n < 256 ^ 5 := by rw [hn]; unfold numL; omega
    have hb := bt_range s i
    rw [impl_reader_number.lv0_eq, if_pos (by rw [bytesOf_length]; omega), if_pos (by omega), if_pos (by rw [bytesOf_length]; omega), bytesOf_rd s i (by omega) (by omega), or_byte n _ hn2.1 (by omega) hb.1 (by omega), wrap_id (x := (i : Int) + 1) (by omega) (by omega)]
    refine impl_number_l s hs t b d (i + 1) (by omega) (by omega) _ ?_
    rw [List.take_succ_eq_append_getElem (by rw [bytesOf_length]; omega)]
    unfold numL
    rw [List.foldl_append]
    simp only [List.foldl_cons, List.foldl_nil]
    have h1 : (bytesOf s)[i]'(by rw [bytesOf_length]; omega) = bt s i := by
      rw [← bytesOf_rd s i (by omega) (by omega)]
      unfold rd
      rw [Int.toNat_natCast, List.getD, List.getElem?_eq_getElem (by rw [bytesOf_length]; omega)]
      rfl
    rw [h1, hn]
    rfl
theorem number_of (t u v : ByteArray) (b c : Bool) (n : Int) (h : impl_reader_take.v t b n = some (u, v, c)) (hu : u.size ≤ 6) : impl_reader_number.v t b n = some (numM u, v, c) := by
  rw [impl_reader_number.v_eq, h]
  simp only [Option.bind_some]
  rw [if_pos (by omega)]
  exact impl_number_l u hu v c u.size 0 rfl (by omega) 0 rfl
theorem done_bad (t : ByteArray) : impl_reader_done.v t true = some (false, t, true) := by rw [impl_reader_done.v_eq, if_pos rfl]
theorem spec_l02Of_l (s : ByteArray) (hs : s.size ≤ 6) : ∀ (d i : Nat), s.size - i = d → i ≤ s.size → ∀ n : Int, n = numL ((bytesOf s).take i) → spec_l02Of.lv0 s n i = some (numM s)
  | 0, i, h, hi, n, hn => by
    rw [spec_l02Of.lv0_eq, if_neg (by omega), hn, List.take_of_length_le (by rw [bytesOf_length]; omega)]; rfl
  | d + 1, i, h, hi, n, hn => by
    have hlt : i < s.size := by omega
    have hr := foldl_range ((bytesOf s).take i) 0 (fun c hc => bytesOf_range s c (List.mem_of_mem_take hc)) (by omega)
    have hlen : ((bytesOf s).take i).length = i := by rw [List.length_take, bytesOf_length]; omega
    rw [hlen] at hr
    have hp : (256 : Int) ^ i ≤ 256 ^ 5 := by
      have h5 : i = 0 ∨ i = 1 ∨ i = 2 ∨ i = 3 ∨ i = 4 ∨ i = 5 := by omega
      rcases h5 with rfl | rfl | rfl | rfl | rfl | rfl <;> decide
    have hn2 : 0 ≤ n ∧ n < 256 ^ 5 := by rw [hn]; unfold numL; omega
    have hb := bt_range s i
    rw [spec_l02Of.lv0_eq, if_pos (by omega), if_pos (by omega), wrap_id (x := n * 256) (by omega) (by omega), wrap_id (x := bt s i) (by omega) (by omega), wrap_id (x := n * 256 + bt s i) (by omega) (by omega), wrap_id (x := (i : Int) + 1) (by omega) (by omega)]
    refine spec_l02Of_l s hs d (i + 1) (by omega) (by omega) _ ?_
    rw [List.take_succ_eq_append_getElem (by rw [bytesOf_length]; omega)]
    unfold numL
    rw [List.foldl_append]
    simp only [List.foldl_cons, List.foldl_nil]
    have h1 : (bytesOf s)[i]'(by rw [bytesOf_length]; omega) = bt s i := by
      rw [← bytesOf_rd s i (by omega) (by omega)]
      unfold rd
      rw [Int.toNat_natCast, List.getD, List.getElem?_eq_getElem (by rw [bytesOf_length]; omega)]
      rfl
    rw [h1, hn]
    rfl
theorem spec_l02Of_v (s : ByteArray) (hs : s.size ≤ 6) : spec_l02Of.v s = some (numM s) := by
  rw [spec_l02Of.v_eq]
  exact spec_l02Of_l s hs s.size 0 rfl (by omega) 0 rfl
def takeF (n : Nat) (t : ByteArray) (b : Bool) : ByteArray × ByteArray × Bool := if b = true ∨ t.size < n then (⟨#[]⟩, t, true) else (t.extract 0 n, t.extract n t.size, false)
def numF (n : Nat) (t : ByteArray) (b : Bool) : Int × ByteArray × Bool := (numM (takeF n t b).1, (takeF n t b).2.1, (takeF n t b).2.2)
theorem takeF_bad (n : Nat) (t : ByteArray) : takeF n t true = (⟨#[]⟩, t, true) := by unfold takeF; rw [if_pos (.inl rfl)]
theorem numF_bad (n : Nat) (t : ByteArray) : numF n t true = (0, t, true) := by unfold numF; rw [takeF_bad]; rfl
theorem takeF_size (n : Nat) (t : ByteArray) (b : Bool) : (takeF n t b).1.size ≤ n := by
  unfold takeF
  split
  · exact Nat.zero_le _
  · show (t.extract 0 n).size ≤ n
    rw [ByteArray.size_extract]; omega
theorem impl_take_v (t : ByteArray) (b : Bool) (n : Nat) : impl_reader_take.v t b n = some (takeF n t b) := by
  rw [impl_reader_take.v_eq]; unfold takeF
  cases b
  · by_cases h : t.size < n
    · rw [if_neg (by simp), if_pos (by omega), if_pos (.inr h)]
    · rw [if_neg (by simp), if_neg (by omega), if_pos (by omega), if_pos (by omega), if_neg (by simp; omega), Int.toNat_natCast]
  · rw [if_pos rfl, if_pos (.inl rfl)]
theorem spec_ltext_v (t : ByteArray) (b : Bool) (n : Nat) : spec_l05Reader_text.v t b n = some (takeF n t b) := by
  rw [spec_l05Reader_text.v_eq]; unfold takeF
  cases b
  · by_cases h : t.size < n
    · rw [if_neg (by simp), if_pos (by omega), if_pos (.inr h)]
    · rw [if_neg (by simp), if_neg (by omega), if_pos (by omega), if_pos (by omega), if_neg (by simp; omega), Int.toNat_natCast]
  · rw [if_pos rfl, if_pos (.inl rfl)]
theorem spec_ltext_i (t : ByteArray) (b : Bool) (n : Int) (h : 0 ≤ n) : spec_l05Reader_text.v t b n = some (takeF n.toNat t b) := by
  have := spec_ltext_v t b n.toNat
  rwa [Int.toNat_of_nonneg h] at this
theorem impl_take_i (t : ByteArray) (b : Bool) (n : Int) (h : 0 ≤ n) : impl_reader_take.v t b n = some (takeF n.toNat t b) := by
  have := impl_take_v t b n.toNat
  rwa [Int.toNat_of_nonneg h] at this
theorem impl_num_v (t : ByteArray) (b : Bool) (n : Nat) (hn : n ≤ 6) : impl_reader_number.v t b n = some (numF n t b) :=
  number_of _ _ _ _ _ _ (impl_take_v t b n) (Nat.le_trans (takeF_size n t b) hn)
theorem spec_num_v (t : ByteArray) (b : Bool) (n : Nat) (hn : n ≤ 6) : spec_l05Reader_number.v t b n = some (numF n t b) := by
  rw [spec_l05Reader_number.v_eq, spec_ltext_v, Option.bind_some, spec_l02Of_v _ (Nat.le_trans (takeF_size n t b) hn)]
  rfl
theorem in1 (t : ByteArray) (b : Bool) : impl_reader_number.v t b 1 = some (numF 1 t b) := impl_num_v t b 1 (by decide)
theorem in2 (t : ByteArray) (b : Bool) : impl_reader_number.v t b 2 = some (numF 2 t b) := impl_num_v t b 2 (by decide)
theorem in3 (t : ByteArray) (b : Bool) : impl_reader_number.v t b 3 = some (numF 3 t b) := impl_num_v t b 3 (by decide)
theorem in4 (t : ByteArray) (b : Bool) : impl_reader_number.v t b 4 = some (numF 4 t b) := impl_num_v t b 4 (by decide)
theorem sn1 (t : ByteArray) (b : Bool) : spec_l05Reader_number.v t b 1 = some (numF 1 t b) := spec_num_v t b 1 (by decide)
theorem sn2 (t : ByteArray) (b : Bool) : spec_l05Reader_number.v t b 2 = some (numF 2 t b) := spec_num_v t b 2 (by decide)
theorem sn3 (t : ByteArray) (b : Bool) : spec_l05Reader_number.v t b 3 = some (numF 3 t b) := spec_num_v t b 3 (by decide)
theorem sn4 (t : ByteArray) (b : Bool) : spec_l05Reader_number.v t b 4 = some (numF 4 t b) := spec_num_v t b 4 (by decide)
theorem numF1_range (t : ByteArray) (b : Bool) : 0 ≤ (numF 1 t b).1 ∧ (numF 1 t b).1 ≤ 255 := by
  have h1 := numM_range (takeF 1 t b).1
  have h2 : (256 : Int) ^ (takeF 1 t b).1.size ≤ 256 ^ 1 := by
    have := takeF_size 1 t b
    have h5 : (takeF 1 t b).1.size = 0 ∨ (takeF 1 t b).1.size = 1 := by omega
    rcases h5 with h5 | h5 <;> rw [h5] <;> decide
  unfold numF
  omega
theorem isz (t : ByteArray) (b : Bool) : impl_reader_sized.v t b 1 = some (takeF (numF 1 t b).1.toNat (numF 1 t b).2.1 (numF 1 t b).2.2) := by
  rw [impl_reader_sized.v_eq, in1, Option.bind_some, impl_take_i _ _ _ (numF1_range t b).1, Option.bind_some]
abbrev TabR := Int × Int × List S78 × List S84 × Bool
def TNo : TabR := (0, 0, [], [], false)
def TRel (r s : TabR) : Prop := (r.2.2.2.2 = false ∧ s = TNo) ∨ (r = s ∧ r.2.2.2.2 = true ∧ tableB r.1 r.2.1 r.2.2.1 r.2.2.2.1 = true)
def TBoth (x y : Option TabR) : Prop := ∃ r s, x = some r ∧ y = some s ∧ TRel r s
theorem sbad2 (x : Int) (t : ByteArray) (a c : Int) (L : List S78) (M : List S84) : spec_l05Read.lv2 x t true a c L M = some (a, c, L, M, false) := by
  rw [spec_l05Read.lv2_eq]
  by_cases h : x > 0
  · rw [if_pos h, spec_l05Read.jv5_eq, if_neg (by simp), if_pos rfl]
  · rw [if_neg h, spec_l05Read.jv5_eq, if_neg (by simp), if_pos rfl]
theorem sbad0 (x : Int) (t : ByteArray) (a c : Int) (L : List S78) (M : List S84) : spec_l05Read.lv0 x t true a c L M = some (a, c, L, M, false) := by
  have h1 : spec_l05Read.jv1 x false t true a c L M = some (a, c, L, M, false) := by
    rw [spec_l05Read.jv1_eq, if_neg (by simp), sn1, numF_bad, Option.bind_some, sbad2]
  rw [spec_l05Read.lv0_eq]
  by_cases h : x > 0
  · rw [if_pos h]; exact h1
  · rw [if_neg h]; exact h1
theorem sbad1 (x y : Int) (t : ByteArray) (a c : Int) (L : List S78) (M : List S84) (n : ByteArray) (k h e : Int) (ws : List S80) (hL : L.length < 2199023255552) :
    spec_l05Read.lv1 x y t true a c L M n k h e ws = some (a, c, L ++ [(⟨n, k, h, e, ws⟩ : S78)], M, false) := by
  have h1 : spec_l05Read.jv3 x y false t true a c L M n k h e ws = some (a, c, L ++ [(⟨n, k, h, e, ws⟩ : S78)], M, false) := by
    rw [spec_l05Read.jv3_eq, if_neg (by simp), if_pos hL, sbad0]
  rw [spec_l05Read.lv1_eq]
  by_cases h : y > 0
  · rw [if_pos h]; exact h1
  · rw [if_neg h]; exact h1
theorem ibad2 : ∀ (d : Nat) (n j : Int) (t : ByteArray) (a c : Int) (L : List S78) (M : List S84), (n - j).toNat = d → 0 ≤ j → n ≤ 1000 → M.length + d ≤ 1000000 → impl_readTable.lv2 n j t true a c L M = some TNo
  | 0, n, j, t, a, c, L, M, h, h0, hn, hM => by
    rw [impl_readTable.lv2_eq, if_neg (by omega), done_bad, Option.bind_some, if_neg (by simp)]
    rfl
  | d + 1, n, j, t, a, c, L, M, h, h0, hn, hM => by
    have w : wrap64 (j + 1) = j + 1 := wrap_id (by omega) (by omega)
    rw [impl_readTable.lv2_eq, if_pos (by omega)]
    simp only [in1, in2, in3, in4, numF_bad, Option.bind_some, w]
    rw [if_pos (by omega)]
    exact ibad2 d n (j + 1) _ _ _ _ _ (by omega) (by omega) hn (by rw [List.length_append]; simp only [List.length_cons, List.length_nil]; omega)
theorem ibad0 : ∀ (d : Nat) (n j : Int) (t : ByteArray) (a c : Int) (L : List S78), (n - j).toNat = d → 0 ≤ j → n ≤ 1000 → L.length + d ≤ 1000000 → impl_readTable.lv0 n j t true a c L = some TNo
  | 0, n, j, t, a, c, L, h, h0, hn, hL => by
    rw [impl_readTable.lv0_eq, if_neg (by omega), in1, numF_bad, Option.bind_some]
    exact ibad2 0 0 0 _ _ _ _ _ rfl (by omega) (by omega) (by simp)
  | d + 1, n, j, t, a, c, L, h, h0, hn, hL => by
    have w : wrap64 (j + 1) = j + 1 := wrap_id (by omega) (by omega)
    rw [impl_readTable.lv0_eq, if_pos (by omega)]
    simp only [isz, in1, in2, in3, in4, numF_bad, takeF_bad, Option.bind_some]
    rw [impl_readTable.lv1_eq, if_neg (by omega), if_pos (by omega), w]
    exact ibad0 d n (j + 1) _ _ _ _ (by omega) (by omega) hn (by rw [List.length_append]; simp only [List.length_cons, List.length_nil]; omega)
theorem ibad1 : ∀ (d : Nat) (n j m i : Int) (t : ByteArray) (a c : Int) (L : List S78) (nm : ByteArray) (k h e : Int) (ws : List S80), (m - i).toNat = d → 0 ≤ i → m ≤ 1000 → ws.length + d ≤ 1000000 → 0 ≤ j → n ≤ 1000 → L.length + 1 + (n - (j + 1)).toNat ≤ 1000000 → j < 1000 →
    impl_readTable.lv1 n j m i t true a c L nm k h e ws = some TNo
  | 0, n, j, m, i, t, a, c, L, nm, k, h, e, ws, hd, h0, hm, hw, hj, hn, hL, hj2 => by
    have w : wrap64 (j + 1) = j + 1 := wrap_id (by omega) (by omega)
    rw [impl_readTable.lv1_eq, if_neg (by omega), if_pos (by omega), w]
    exact ibad0 _ n (j + 1) _ _ _ _ rfl (by omega) hn (by rw [List.length_append]; simp only [List.length_cons, List.length_nil]; omega)
  | d + 1, n, j, m, i, t, a, c, L, nm, k, h, e, ws, hd, h0, hm, hw, hj, hn, hL, hj2 => by
    have w : wrap64 (i + 1) = i + 1 := wrap_id (by omega) (by omega)
    rw [impl_readTable.lv1_eq, if_pos (by omega)]
    simp only [in1, in2, numF_bad, Option.bind_some, w]
    rw [if_pos (by omega)]
    exact ibad1 d n j m (i + 1) _ _ _ _ _ _ _ _ _ (by omega) (by omega) hm (by rw [List.length_append]; simp only [List.length_cons, List.length_nil]; omega) hj hn hL hj2
def TFit (L : List S78) : Prop := ∀ x ∈ L, x.f0.size ≤ 9223372036854775807 ∧ (x.f4.length : Int) ≤ 9223372036854775807
theorem both2 : ∀ (d : Nat) (n j : Int) (t : ByteArray) (b : Bool) (a c : Int) (L : List S78) (M : List S84), (n - j).toNat = d → 0 ≤ j → j ≤ n → n ≤ 1000 → M.length + d ≤ 1000000 → L.length ≤ 1000000 → TFit L →
    TBoth (spec_l05Read.lv2 (n - j) t b a c L M) (impl_readTable.lv2 n j t b a c L M)
  | d, n, j, t, true, a, c, L, M, h, h0, hj, hn, hM, hL, hf => ⟨_, _, sbad2 _ _ _ _ _ _, ibad2 d n j _ _ _ _ _ h h0 hn hM, .inl ⟨rfl, rfl⟩⟩
  | 0, n, j, t, false, a, c, L, M, h, h0, hj, hn, hM, hL, hf => by
    have g1 : ¬ n - j > 0 := by omega
    have g2 : ¬ j < n := by omega
    have hd : impl_reader_done.v t false = some ((t.toList == ([] : List UInt8)), t, false) := by rw [impl_reader_done.v_eq, if_neg (show ¬ false = true by decide)]
    have hs : spec_l05Read.lv2 (n - j) t false a c L M = if t.toList = ([] : List UInt8) then some (a, c, L, M, tableB a c L M) else some (a, c, L, M, false) := by
      rw [spec_l05Read.lv2_eq, if_neg g1, spec_l05Read.jv5_eq, if_neg (show ¬ false = true by decide), if_neg (show ¬ false = true by decide), spec_tableOK_v a c L M (by omega) (by omega) hf, Option.bind_some]
    have hi : impl_readTable.lv2 n j t false a c L M = if (t.toList == ([] : List UInt8)) = true then (if tableB a c L M = true then some (a, c, L, M, true) else some TNo) else some TNo := by
      rw [impl_readTable.lv2_eq, if_neg g2, hd, Option.bind_some, impl_tableOK_v a c L M (by omega) (by omega) hf, Option.bind_some]
      rfl
    rw [hs, hi]
    by_cases ht : t.toList = []
    · rw [if_pos ht, if_pos (by rw [ht]; rfl)]
      cases hb : tableB a c L M with
      | false => exact ⟨_, _, rfl, if_neg (by simp), .inl ⟨rfl, rfl⟩⟩
      | true => exact ⟨_, _, rfl, if_pos rfl, .inr ⟨rfl, rfl, hb⟩⟩
    · rw [if_neg ht, if_neg (by simpa using ht)]
      exact ⟨_, _, rfl, rfl, .inl ⟨rfl, rfl⟩⟩
  | d + 1, n, j, t, false, a, c, L, M, h, h0, hj, hn, hM, hL, hf => by
    have w : wrap64 (j + 1) = j + 1 := wrap_id (by omega) (by omega)
    have w2 : wrap64 (n - j - 1) = n - (j + 1) := by rw [wrap_id (by omega) (by omega)]; omega
    rw [spec_l05Read.lv2_eq, if_pos (show n - j > 0 by omega), spec_l05Read.jv5_eq, if_pos (by decide), impl_readTable.lv2_eq, if_pos (show j < n by omega)]
    simp only [in1, in2, in3, in4, sn1, sn2, sn3, sn4, Option.bind_some, w, w2, if_pos (show M.length < 2932031007402 by omega)]
    exact both2 d n (j + 1) _ _ _ _ _ _ (by omega) (by omega) (by omega) hn (by rw [List.length_append]; simp only [List.length_cons, List.length_nil]; omega) hL hf
theorem both1 (n j : Int) (a c : Int) (L : List S78) (nm : ByteArray) (tk h e : Int) (h0 : 0 ≤ j) (hj : j < n) (hn : n ≤ 255) (hL : L.length + 1 + (n - (j + 1)).toNat ≤ 1000)
    (hK : ∀ t b (ws : List S80), ws.length ≤ 1000 → TBoth (spec_l05Read.lv0 (n - (j + 1)) t b a c (L ++ [(⟨nm, tk, h, e, ws⟩ : S78)]) []) (impl_readTable.lv0 n (j + 1) t b a c (L ++ [(⟨nm, tk, h, e, ws⟩ : S78)]))) :
    ∀ (d : Nat) (m i : Int) (t : ByteArray) (b : Bool) (ws : List S80), (m - i).toNat = d → 0 ≤ i → i ≤ m → m ≤ 255 → ws.length + d ≤ 1000 →
    TBoth (spec_l05Read.lv1 (n - j) (m - i) t b a c L [] nm tk h e ws) (impl_readTable.lv1 n j m i t b a c L nm tk h e ws)
  | d, m, i, t, true, ws, hd, hi, him, hm, hw => ⟨_, _, sbad1 _ _ _ _ _ _ _ _ _ _ _ _ (by omega), ibad1 d n j m i _ _ _ _ _ _ _ _ _ hd hi (by omega) (by omega) h0 (by omega) (by omega) (by omega), .inl ⟨rfl, rfl⟩⟩
  | 0, m, i, t, false, ws, hd, hi, him, hm, hw => by
    have w : wrap64 (j + 1) = j + 1 := wrap_id (by omega) (by omega)
    have w2 : wrap64 (n - j - 1) = n - (j + 1) := by rw [wrap_id (by omega) (by omega)]; omega
    rw [spec_l05Read.lv1_eq, if_neg (show ¬ m - i > 0 by omega), spec_l05Read.jv3_eq, if_neg (by decide), if_pos (show L.length < 2199023255552 by omega), impl_readTable.lv1_eq, if_neg (show ¬ i < m by omega), if_pos (show L.length < 2199023255552 by omega), w, w2]
    exact hK _ _ _ (by omega)
  | d + 1, m, i, t, false, ws, hd, hi, him, hm, hw => by
    have w : wrap64 (i + 1) = i + 1 := wrap_id (by omega) (by omega)
    have w2 : wrap64 (m - i - 1) = m - (i + 1) := by rw [wrap_id (by omega) (by omega)]; omega
    rw [spec_l05Read.lv1_eq, if_pos (show m - i > 0 by omega), spec_l05Read.jv3_eq, if_pos (by decide), impl_readTable.lv1_eq, if_pos (show i < m by omega)]
    simp only [in1, in2, sn1, sn2, Option.bind_some, w, w2, if_pos (show ws.length < 8796093022208 by omega)]
    exact both1 n j a c L nm tk h e h0 hj hn hL hK d m (i + 1) _ _ _ (by omega) (by omega) (by omega) hm (by rw [List.length_append]; simp only [List.length_cons, List.length_nil]; omega)
theorem both0 : ∀ (d : Nat) (n j : Int) (t : ByteArray) (b : Bool) (a c : Int) (L : List S78), (n - j).toNat = d → 0 ≤ j → j ≤ n → n ≤ 255 → L.length + d ≤ 1000 → TFit L →
    TBoth (spec_l05Read.lv0 (n - j) t b a c L []) (impl_readTable.lv0 n j t b a c L)
  | d, n, j, t, true, a, c, L, h, h0, hj, hn, hL, hf => ⟨_, _, sbad0 _ _ _ _ _ _, ibad0 d n j _ _ _ _ h h0 (by omega) (by omega), .inl ⟨rfl, rfl⟩⟩
  | 0, n, j, t, false, a, c, L, h, h0, hj, hn, hL, hf => by
    have hr := numF1_range t false
    have := both2 _ (numF 1 t false).1 0 (numF 1 t false).2.1 (numF 1 t false).2.2 a c L [] rfl (by omega) hr.1 (by omega) (by simp only [List.length_nil]; omega) (by omega) hf
    rw [spec_l05Read.lv0_eq, if_neg (show ¬ n - j > 0 by omega), spec_l05Read.jv1_eq, if_neg (by decide), sn1, Option.bind_some, impl_readTable.lv0_eq, if_neg (show ¬ j < n by omega), in1, Option.bind_some]
    rwa [Int.sub_zero] at this
  | d + 1, n, j, t, false, a, c, L, h, h0, hj, hn, hL, hf => by
    rw [spec_l05Read.lv0_eq, if_pos (show n - j > 0 by omega), spec_l05Read.jv1_eq, if_pos (by decide), impl_readTable.lv0_eq, if_pos (show j < n by omega)]
    have hr := numF1_range t false
    have hz : (takeF (numF 1 t false).1.toNat (numF 1 t false).2.1 (numF 1 t false).2.2).1.size ≤ 255 := by
      have := takeF_size (numF 1 t false).1.toNat (numF 1 t false).2.1 (numF 1 t false).2.2
      omega
    simp only [sn1, sn2, sn3, sn4, in1, in2, in3, in4, isz, Option.bind_some, spec_ltext_i _ _ _ hr.1]
    generalize takeF (numF 1 t false).1.toNat (numF 1 t false).2.1 (numF 1 t false).2.2 = T at hz ⊢
    generalize numF 3 T.2.1 T.2.2 = T1
    generalize numF 2 T1.2.1 T1.2.2 = T2
    generalize numF 4 T2.2.1 T2.2.2 = T3
    have hr2 := numF1_range T3.2.1 T3.2.2
    have := both1 n j a c L T.1 T1.1 (wrap64 (T2.1 - 1)) T3.1 h0 (by omega) hn (by omega) (fun t b ws hw => both0 d n (j + 1) t b a c _ (by omega) (by omega) (by omega) hn (by rw [List.length_append]; simp only [List.length_cons, List.length_nil]; omega) (fun x hx => by
      rcases List.mem_append.1 hx with hx | hx
      · exact hf x hx
      · obtain rfl := List.mem_singleton.1 hx
        exact ⟨by show T.1.size ≤ _; omega, by show (ws.length : Int) ≤ _; omega⟩)) _ (numF 1 T3.2.1 T3.2.2).1 0 (numF 1 T3.2.1 T3.2.2).2.1 (numF 1 T3.2.1 T3.2.2).2.2 [] rfl (by omega) hr2.1 hr2.2 (by simp only [List.length_nil]; omega)
    rwa [Int.sub_zero] at this
theorem readTable_both (s : ByteArray) : TBoth (spec_l05Read.v s) (impl_readTable.v s) := by
  rw [spec_l05Read.v_eq, impl_readTable.v_eq]
  simp only [sn1, sn3, sn4, in1, in3, in4, Option.bind_some]
  generalize numF 4 s false = T1
  generalize numF 3 T1.2.1 T1.2.2 = T2
  have hr2 := numF1_range T2.2.1 T2.2.2
  have := both0 _ (numF 1 T2.2.1 T2.2.2).1 0 (numF 1 T2.2.1 T2.2.2).2.1 (numF 1 T2.2.1 T2.2.2).2.2 T1.1 T2.1 [] rfl (by omega) hr2.1 hr2.2 (by simp only [List.length_nil]; omega) (fun x hx => by cases hx)
  rwa [Int.sub_zero] at this
theorem tableB_facts {a c : Int} {L : List S78} {M : List S84} (h : tableB a c L M = true) : L.length ≤ 4 ∧ M.length ≤ 6 ∧ ∀ x ∈ L, x.f4.length ≤ 4 := by
  unfold tableB at h
  simp only [Bool.and_eq_true, decide_eq_true_eq] at h
  obtain ⟨_, _, h1, h2, h3, _⟩ := h
  refine ⟨by omega, by omega, fun x hx => ?_⟩
  obtain ⟨i, hi, rfl⟩ := List.getElem_of_mem hx
  have := (allI_iff _ _ _ 0 rfl).1 h3 (i : Int) (by omega) (by omega)
  have e : rd_T78 L (i : Int) = L[i] := by
    unfold rd_T78
    rw [List.getD_eq_getElem?_getD, Int.toNat_natCast, List.getElem?_eq_getElem hi]
    rfl
  rw [e] at this
  unfold lockB at this
  simp only [Bool.and_eq_true, decide_eq_true_eq] at this
  omega
abbrev TabC := Int × Int × List S78 × List S84 × Int
theorem ReadTable_eq (l : List Int) : ∃ r : TabC, spec_ReadTable.v l = some r ∧ impl_ReadTable.v l = some r ∧ r.2.2.1.length ≤ 4 ∧ r.2.2.2.1.length ≤ 6 ∧ ∀ x ∈ r.2.2.1, x.f4.length ≤ 4 := by
  rw [spec_ReadTable.v_eq, impl_ReadTable.v_eq]
  by_cases h1 : (l.length : Int) > 65536
  · simp only [if_pos h1]
    exact ⟨_, rfl, rfl, by simp, by simp, fun x hx => by cases hx⟩
  · obtain ⟨r, s, e1, e2, e3⟩ := readTable_both (strOfNums l)
    rw [if_neg h1, if_neg h1, e1, e2, Option.bind_some, Option.bind_some]
    rcases e3 with ⟨hr, rfl⟩ | ⟨rfl, hr, hb⟩
    · rw [if_neg (by rw [hr]; simp), if_neg (by simp [TNo])]
      exact ⟨_, rfl, rfl, by simp, by simp, fun x hx => by cases hx⟩
    · rw [if_pos hr]
      obtain ⟨b1, b2, b3⟩ := tableB_facts hb
      exact ⟨_, rfl, rfl, b1, b2, b3⟩
theorem markText_l : ∀ (m : Nat) (x : Int) (s : ByteArray), 0 ≤ x → x < 10 ^ m → x ≤ 9223372036854775807 → s.size + m ≤ 1000000 → ∃ r, laws_markText.lv0 x s = some r
  | 0, x, s, h0, h1, h2, h3 => ⟨_, by rw [laws_markText.lv0_eq, if_neg (by simp at h1; omega), if_pos (by omega)]⟩
  | m + 1, x, s, h0, h1, h2, h3 => by
    by_cases hx : x > 0
    · have h4 : (strOfNums [(wrap64 (48 + (Int.tmod x 10))) % 256]).size = 1 := by rw [strOf_size]; rfl
      have h5 : Int.tdiv x 10 = x / 10 := Int.tdiv_eq_ediv_of_nonneg h0
      obtain ⟨r, hr⟩ := markText_l m (x / 10) ((strOfNums [(wrap64 (48 + (Int.tmod x 10))) % 256]) ++ s) (by omega) (by rw [Int.pow_succ] at h1; omega) (by omega) (by rw [ByteArray.size_append, h4]; omega)
      refine ⟨r, ?_⟩
      rw [laws_markText.lv0_eq, if_pos hx]
      simp only [Option.bind_some]
      rw [if_pos (by rw [h4]; omega), h5, wrap_id (by omega) (by omega), hr]
    · exact ⟨_, by rw [laws_markText.lv0_eq, if_neg hx, if_pos (by omega)]⟩
noncomputable def mtext (k : Int) : ByteArray := (laws_markText.v k).getD ⟨#[]⟩
theorem markText_v (k : Int) (h : 0 ≤ k) (h2 : k ≤ 9223372036854775807) : laws_markText.v k = some (mtext k) := by
  have : ∃ r, laws_markText.v k = some r := by
    rw [laws_markText.v_eq]
    by_cases hk : k ≤ 0
    · exact ⟨_, by rw [if_pos hk]⟩
    · rw [if_neg hk]
      exact markText_l 19 k ⟨#[]⟩ h (by omega) h2 (by show 0 + 19 ≤ _; omega)
  obtain ⟨r, hr⟩ := this
  rw [mtext, hr]; rfl
/-- Marks that take a number of steps that the element tells. -/
def gmark {α : Type} (g : α → Int → α) (st : α → Int) : List α → Int → List α
  | [], _ => []
  | x :: l, k => g x k :: gmark g st l (k + st x)
def gtot {α : Type} (st : α → Int) : List α → Int
  | [] => 0
  | x :: l => st x + gtot st l
theorem gtot_cons {α : Type} (st : α → Int) (x : α) (l : List α) : gtot st (x :: l) = st x + gtot st l := rfl
theorem gmark_cons {α : Type} (g : α → Int → α) (st : α → Int) (x : α) (l : List α) (k : Int) : gmark g st (x :: l) k = g x k :: gmark g st l (k + st x) := rfl
theorem wrk (k c m : Int) (h : 0 ≤ k) (h1 : k ≤ 10000000) (c0 : 0 ≤ c) (c1 : c ≤ 10) (e : m = c + 1) : wrap64 (k + c + 1) = k + m := by
  rw [wrap_id (by omega) (by omega)]; omega
theorem wrk0 (k : Int) (h : 0 ≤ k) (h1 : k ≤ 10000000) : wrap64 (k + 1) = k + 1 := wrap_id (by omega) (by omega)
theorem wrn (n : Nat) (h : n ≤ 10000000) : wrap64 ((n : Nat) + 1 : Int) = ((n + 1 : Nat) : Int) := by
  rw [wrap_id (by omega) (by omega)]; omega
theorem gmark_length {α : Type} (g : α → Int → α) (st : α → Int) : ∀ (l : List α) (k : Int), (gmark g st l k).length = l.length
  | [], _ => rfl
  | x :: l, k => by unfold gmark; rw [List.length_cons, List.length_cons, gmark_length g st l]
theorem gtot_nonneg {α : Type} (st : α → Int) : ∀ (l : List α), (∀ x ∈ l, 0 ≤ st x) → 0 ≤ gtot st l
  | [], _ => by simp [gtot]
  | x :: l, h => by
    have h1 := h x (by simp)
    have h2 := gtot_nonneg st l (fun y hy => h y (by simp [hy]))
    unfold gtot; omega
theorem gtot_le {α : Type} (st : α → Int) (c : Int) : ∀ (l : List α), (∀ x ∈ l, st x ≤ c) → gtot st l ≤ l.length * c
  | [], _ => by simp [gtot]
  | x :: l, h => by
    have h1 := h x (by simp)
    have h2 := gtot_le st c l (fun y hy => h y (by simp [hy]))
    unfold gtot
    rw [List.length_cons, Int.natCast_add, Int.add_mul]
    simp only [Int.natCast_one, Int.one_mul]
    omega
theorem mark_var {α : Type} (B : Int) (P : α → Prop) (g : α → Int → α) (st : α → Int) (L : List α → Int → Int → Option (Int × List α))
    (hL : ∀ pre x rest k, P x → 0 ≤ k → k + st x ≤ B → pre.length + rest.length ≤ 1000000 → L (pre ++ x :: rest) k (pre.length : Nat) = L (pre ++ g x k :: rest) (k + st x) ((pre.length + 1 : Nat)))
    (hE : ∀ l k, L l k (l.length : Nat) = some (k, l)) : ∀ (rest pre : List α) (k : Int), (∀ x ∈ rest, P x ∧ 0 ≤ st x) → 0 ≤ k → k + gtot st rest ≤ B → pre.length + rest.length ≤ 1000000 →
      L (pre ++ rest) k (pre.length : Nat) = some (k + gtot st rest, pre ++ gmark g st rest k)
  | [], pre, k, _, _, _, _ => by
    have := hE pre k
    simpa [gtot, gmark] using this
  | x :: rest, pre, k, hp, hk, hb, hl => by
    have h1 := hp x (by simp)
    have h2 := gtot_nonneg st rest (fun y hy => (hp y (by simp [hy])).2)
    rw [gtot_cons] at hb
    rw [List.length_cons] at hl
    rw [hL pre x rest k h1.1 hk (by omega) (by omega)]
    have := mark_var B P g st L hL hE rest (pre ++ [g x k]) (k + st x) (fun y hy => hp y (by simp [hy])) (by omega) (by omega) (by simp; omega)
    rw [List.append_assoc, List.singleton_append, List.length_append] at this
    rw [show ((pre.length + 1 : Nat) : Int) = ((pre.length + [g x k].length : Nat) : Int) from rfl, this]
    rw [gtot_cons, gmark_cons, List.append_assoc, List.singleton_append, Int.add_assoc]
theorem held_var {α : Type} (B : Int) (P : α → Prop) (g : α → Int → α) (st : α → Int) (H : List α → Int → Int → Option Int)
    (hH : ∀ pre x rest k, P x → 0 ≤ k → k + st x ≤ B → pre.length + rest.length ≤ 1000000 → H (pre ++ g x k :: rest) k (pre.length : Nat) = H (pre ++ g x k :: rest) (k + st x) ((pre.length + 1 : Nat)))
    (hE : ∀ l k, H l k (l.length : Nat) = some k) : ∀ (rest pre : List α) (k : Int), (∀ x ∈ rest, P x ∧ 0 ≤ st x) → 0 ≤ k → k + gtot st rest ≤ B → pre.length + rest.length ≤ 1000000 →
      H (pre ++ gmark g st rest k) k (pre.length : Nat) = some (k + gtot st rest)
  | [], pre, k, _, _, _, _ => by
    have := hE pre k
    simpa [gtot, gmark] using this
  | x :: rest, pre, k, hp, hk, hb, hl => by
    have h1 := hp x (by simp)
    have h2 := gtot_nonneg st rest (fun y hy => (hp y (by simp [hy])).2)
    rw [gtot_cons] at hb
    rw [List.length_cons] at hl
    rw [gmark_cons, hH pre x _ k h1.1 hk (by omega) (by rw [gmark_length]; omega)]
    have := held_var B P g st H hH hE rest (pre ++ [g x k]) (k + st x) (fun y hy => hp y (by simp [hy])) (by omega) (by omega) (by simp; omega)
    rw [List.append_assoc, List.singleton_append, List.length_append] at this
    rw [show ((pre.length + 1 : Nat) : Int) = ((pre.length + [g x k].length : Nat) : Int) from rfl, this]
    rw [gtot_cons, Int.add_assoc]
theorem getD_mid {α : Type} (pre rest : List α) (x z : α) : (pre ++ x :: rest).getD ((pre.length : Nat) : Int).toNat z = x := by
  rw [List.getD_eq_getElem?_getD, Int.toNat_natCast, List.getElem?_append_right (Nat.le_refl _), Nat.sub_self]
  rfl
theorem set_mid {α : Type} (pre rest : List α) (x y : α) : (pre ++ x :: rest).set ((pre.length : Nat) : Int).toNat y = pre ++ y :: rest := by
  rw [Int.toNat_natCast, List.set_append_right _ _ (Nat.le_refl _), Nat.sub_self]
  rfl
theorem mid_lt {α : Type} (pre rest : List α) (x : α) : ((pre.length : Nat) : Int) < ((pre ++ x :: rest).length : Int) := by
  rw [List.length_append, List.length_cons]; omega
def gW : S80 → Int → S80 := fun _ k => ⟨k, k + 1⟩
theorem markWaiters_v (l : List S80) (k : Int) (hk : 0 ≤ k) (hl : l.length ≤ 1000) (hk2 : k ≤ 2000000) : laws_markWaiterS.v l k = some (k + gtot (fun _ => 2) l, gmark gW (fun _ => 2) l k) := by
  rw [laws_markWaiterS.v_eq]
  have hb := gtot_le (fun _ : S80 => (2 : Int)) 2 l (fun _ _ => Int.le_refl _)
  exact mark_var 3000000 (fun _ => True) gW (fun _ => 2) (fun l k i => laws_markWaiterS.lv0 l k i) (fun pre x rest k _ h0 h1 h2 => by
    show laws_markWaiterS.lv0 _ _ _ = _
    have p0 : (0 : Int) ≤ (pre.length : Nat) := by omega
    have pn : pre.length ≤ 10000000 := by omega
    have hk7 : k ≤ 10000000 := by have h1' : k + 2 ≤ 3000000 := h1; omega
    have w1 : wrap64 (k + 1) = k + 1 := wrk0 k h0 hk7
    have w2 : wrap64 (k + 1 + 1) = k + 2 := wrk k 1 2 h0 hk7 (by decide) (by decide) rfl
    have w3 : wrap64 ((pre.length : Nat) + 1 : Int) = ((pre.length + 1 : Nat) : Int) := wrn _ pn
    rw [laws_markWaiterS.lv0_eq, if_pos (mid_lt pre rest x), if_pos p0]
    simp only [Option.bind_some, w1, w2, w3, rd_T80, set_mid, getD_mid]
    rfl) (fun l k => by
    show laws_markWaiterS.lv0 _ _ _ = _
    rw [laws_markWaiterS.lv0_eq, if_neg (by omega)]) l [] k (fun _ _ => ⟨trivial, by decide⟩) hk (by omega) (by simp; omega)
theorem heldWaiters_v (l : List S80) (k : Int) (hk : 0 ≤ k) (hl : l.length ≤ 1000) (hk2 : k ≤ 2000000) : laws_heldWaiterS.v (gmark gW (fun _ => 2) l k) k = some (k + gtot (fun _ => 2) l) := by
  rw [laws_heldWaiterS.v_eq]
  have hb := gtot_le (fun _ : S80 => (2 : Int)) 2 l (fun _ _ => Int.le_refl _)
  exact held_var 3000000 (fun _ => True) gW (fun _ => 2) (fun l k i => laws_heldWaiterS.lv0 l k i) (fun pre x rest k _ h0 h1 h2 => by
    show laws_heldWaiterS.lv0 _ _ _ = _
    have p0 : (0 : Int) ≤ (pre.length : Nat) := by omega
    have pn : pre.length ≤ 10000000 := by omega
    have hk7 : k ≤ 10000000 := by have h1' : k + 2 ≤ 3000000 := h1; omega
    have w1 : wrap64 (k + 1) = k + 1 := wrk0 k h0 hk7
    have w2 : wrap64 (k + 1 + 1) = k + 2 := wrk k 1 2 h0 hk7 (by decide) (by decide) rfl
    have w3 : wrap64 ((pre.length : Nat) + 1 : Int) = ((pre.length + 1 : Nat) : Int) := wrn _ pn
    rw [laws_heldWaiterS.lv0_eq, if_pos (mid_lt pre rest _), if_pos p0]
    simp only [w1, w2, w3, rd_T80, getD_mid]
    rw [if_pos (show (gW x k).f0 = k from rfl), if_pos (show (gW x k).f1 = k + 1 from rfl)]) (fun l k => by
    show laws_heldWaiterS.lv0 _ _ _ = _
    rw [laws_heldWaiterS.lv0_eq, if_neg (by omega)]) l [] k (fun _ _ => ⟨trivial, by decide⟩) hk (by omega) (by simp; omega)
noncomputable def gL : S78 → Int → S78 := fun x k => ⟨mtext k, k + 1, k + 2, k + 3, gmark gW (fun _ => 2) x.f4 (k + 4)⟩
def sL : S78 → Int := fun x => 4 + gtot (fun _ => 2) x.f4
def PL (x : S78) : Prop := x.f4.length ≤ 4
theorem sL_range (x : S78) (h : PL x) : 4 ≤ sL x ∧ sL x ≤ 12 := by
  unfold sL PL at *
  have h1 := gtot_le (fun _ : S80 => (2 : Int)) 2 x.f4 (fun _ _ => Int.le_refl _)
  have h2 := gtot_nonneg (fun _ : S80 => (2 : Int)) x.f4 (fun _ _ => by decide)
  omega
theorem markLocks_v (l : List S78) (k : Int) (hp : ∀ x ∈ l, PL x) (hk : 0 ≤ k) (hl : l.length ≤ 4) (hk2 : k ≤ 1000) : laws_markLockS.v l k = some (k + gtot sL l, gmark gL sL l k) := by
  rw [laws_markLockS.v_eq]
  have hb := gtot_le sL 12 l (fun x hx => (sL_range x (hp x hx)).2)
  exact mark_var 1000000 (fun x => PL x) gL sL (fun l k i => laws_markLockS.lv0 l k i) (fun pre x rest k hx h0 h1 h2 => by
    show laws_markLockS.lv0 _ _ _ = _
    have hr := sL_range x hx
    have hmw := markWaiters_v x.f4 (k + 4) (by omega) (by unfold PL at hx; omega) (by omega)
    have p0 : (0 : Int) ≤ (pre.length : Nat) := by omega
    have pn : pre.length ≤ 10000000 := by omega
    have hk7 : k ≤ 10000000 := by omega
    have w1 : wrap64 (k + 1) = k + 1 := wrk0 k h0 hk7
    have w2 : wrap64 (k + 1 + 1) = k + 2 := wrk k 1 2 h0 hk7 (by decide) (by decide) rfl
    have w3 : wrap64 (k + 2 + 1) = k + 3 := wrk k 2 3 h0 hk7 (by decide) (by decide) rfl
    have w4 : wrap64 (k + 3 + 1) = k + 4 := wrk k 3 4 h0 hk7 (by decide) (by decide) rfl
    have w5 : wrap64 ((pre.length : Nat) + 1 : Int) = ((pre.length + 1 : Nat) : Int) := wrn _ pn
    rw [laws_markLockS.lv0_eq, if_pos (mid_lt pre rest x), markText_v k h0 (Int.le_trans hk7 (by decide)), Option.bind_some, if_pos p0]
    simp only [Option.bind_some, w1, w2, w3, w4, w5, rd_T78, set_mid, getD_mid]
    rw [hmw]
    simp only [Option.bind_some, gL, sL, Int.add_assoc]) (fun l k => by
    show laws_markLockS.lv0 _ _ _ = _
    rw [laws_markLockS.lv0_eq, if_neg (by omega)]) l [] k (fun x hx => ⟨hp x hx, by have := (sL_range x (hp x hx)).1; omega⟩) hk (by omega) (by simp; omega)
theorem heldLocks_v (l : List S78) (k : Int) (hp : ∀ x ∈ l, PL x) (hk : 0 ≤ k) (hl : l.length ≤ 4) (hk2 : k ≤ 1000) : laws_heldLockS.v (gmark gL sL l k) k = some (k + gtot sL l) := by
  rw [laws_heldLockS.v_eq]
  have hb := gtot_le sL 12 l (fun x hx => (sL_range x (hp x hx)).2)
  exact held_var 1000000 (fun x => PL x) gL sL (fun l k i => laws_heldLockS.lv0 l k i) (fun pre x rest k hx h0 h1 h2 => by
    show laws_heldLockS.lv0 _ _ _ = _
    have hr := sL_range x hx
    have hhw := heldWaiters_v x.f4 (k + 4) (by omega) (by unfold PL at hx; omega) (by omega)
    have hs : k + 4 + gtot (fun _ => 2) x.f4 = k + sL x := by unfold sL; omega
    have hng : ¬ k + sL x < 0 := by omega
    have p0 : (0 : Int) ≤ (pre.length : Nat) := by omega
    have pn : pre.length ≤ 10000000 := by omega
    have hk7 : k ≤ 10000000 := by omega
    have w1 : wrap64 (k + 1) = k + 1 := wrk0 k h0 hk7
    have w2 : wrap64 (k + 1 + 1) = k + 2 := wrk k 1 2 h0 hk7 (by decide) (by decide) rfl
    have w3 : wrap64 (k + 2 + 1) = k + 3 := wrk k 2 3 h0 hk7 (by decide) (by decide) rfl
    have w4 : wrap64 (k + 3 + 1) = k + 4 := wrk k 3 4 h0 hk7 (by decide) (by decide) rfl
    have w5 : wrap64 ((pre.length : Nat) + 1 : Int) = ((pre.length + 1 : Nat) : Int) := wrn _ pn
    rw [laws_heldLockS.lv0_eq, if_pos (mid_lt pre rest _), if_pos p0, markText_v k h0 (Int.le_trans hk7 (by decide))]
    simp only [Option.bind_some, w1, w2, w3, w4, w5, rd_T78, getD_mid]
    rw [if_pos (show (gL x k).f0.toList = (mtext k).toList from rfl), if_pos (show (gL x k).f1 = k + 1 from rfl), if_pos (show (gL x k).f2 = k + 2 from rfl), if_pos (show (gL x k).f3 = k + 3 from rfl), show (gL x k).f4 = gmark gW (fun _ => 2) x.f4 (k + 4) from rfl,
      hhw]
    simp only [Option.bind_some, hs, if_neg hng]) (fun l k => by
    show laws_heldLockS.lv0 _ _ _ = _
    rw [laws_heldLockS.lv0_eq, if_neg (by omega)]) l [] k (fun x hx => ⟨hp x hx, by have := (sL_range x (hp x hx)).1; omega⟩) hk (by omega) (by simp; omega)
def gS : S84 → Int → S84 := fun _ k => ⟨k, k + 1, ⟨k + 2, k + 3, k + 4, k + 5⟩⟩
theorem markSeens_v (l : List S84) (k : Int) (hk : 0 ≤ k) (hl : l.length ≤ 1000) (hk2 : k ≤ 1000000) : laws_markSeenS.v l k = some (k + gtot (fun _ => 6) l, gmark gS (fun _ => 6) l k) := by
  rw [laws_markSeenS.v_eq]
  have hb := gtot_le (fun _ : S84 => (6 : Int)) 6 l (fun _ _ => Int.le_refl _)
  exact mark_var 3000000 (fun _ => True) gS (fun _ => 6) (fun l k i => laws_markSeenS.lv0 l k i) (fun pre x rest k _ h0 h1 h2 => by
    show laws_markSeenS.lv0 _ _ _ = _
    have p0 : (0 : Int) ≤ (pre.length : Nat) := by omega
    have pn : pre.length ≤ 10000000 := by omega
    have hk7 : k ≤ 10000000 := by have h1' : k + 6 ≤ 3000000 := h1; omega
    have w1 : wrap64 (k + 1) = k + 1 := wrk0 k h0 hk7
    have w2 : wrap64 (k + 1 + 1) = k + 2 := wrk k 1 2 h0 hk7 (by decide) (by decide) rfl
    have w3 : wrap64 (k + 2 + 1) = k + 3 := wrk k 2 3 h0 hk7 (by decide) (by decide) rfl
    have w4 : wrap64 (k + 3 + 1) = k + 4 := wrk k 3 4 h0 hk7 (by decide) (by decide) rfl
    have w6 : wrap64 (k + 4 + 1) = k + 5 := wrk k 4 5 h0 hk7 (by decide) (by decide) rfl
    have w7 : wrap64 (k + 5 + 1) = k + 6 := wrk k 5 6 h0 hk7 (by decide) (by decide) rfl
    have w5 : wrap64 ((pre.length : Nat) + 1 : Int) = ((pre.length + 1 : Nat) : Int) := wrn _ pn
    rw [laws_markSeenS.lv0_eq, if_pos (mid_lt pre rest x), if_pos p0]
    simp only [Option.bind_some, w1, w2, w3, w4, w5, w6, w7, rd_T84, set_mid, getD_mid]
    rfl) (fun l k => by
    show laws_markSeenS.lv0 _ _ _ = _
    rw [laws_markSeenS.lv0_eq, if_neg (by omega)]) l [] k (fun _ _ => ⟨trivial, by decide⟩) hk (by omega) (by simp; omega)
theorem heldSeens_v (l : List S84) (k : Int) (hk : 0 ≤ k) (hl : l.length ≤ 1000) (hk2 : k ≤ 1000000) : laws_heldSeenS.v (gmark gS (fun _ => 6) l k) k = some (k + gtot (fun _ => 6) l) := by
  rw [laws_heldSeenS.v_eq]
  have hb := gtot_le (fun _ : S84 => (6 : Int)) 6 l (fun _ _ => Int.le_refl _)
  exact held_var 3000000 (fun _ => True) gS (fun _ => 6) (fun l k i => laws_heldSeenS.lv0 l k i) (fun pre x rest k _ h0 h1 h2 => by
    show laws_heldSeenS.lv0 _ _ _ = _
    have p0 : (0 : Int) ≤ (pre.length : Nat) := by omega
    have pn : pre.length ≤ 10000000 := by omega
    have hk7 : k ≤ 10000000 := by have h1' : k + 6 ≤ 3000000 := h1; omega
    have w1 : wrap64 (k + 1) = k + 1 := wrk0 k h0 hk7
    have w2 : wrap64 (k + 1 + 1) = k + 2 := wrk k 1 2 h0 hk7 (by decide) (by decide) rfl
    have w3 : wrap64 (k + 2 + 1) = k + 3 := wrk k 2 3 h0 hk7 (by decide) (by decide) rfl
    have w4 : wrap64 (k + 3 + 1) = k + 4 := wrk k 3 4 h0 hk7 (by decide) (by decide) rfl
    have w6 : wrap64 (k + 4 + 1) = k + 5 := wrk k 4 5 h0 hk7 (by decide) (by decide) rfl
    have w7 : wrap64 (k + 5 + 1) = k + 6 := wrk k 5 6 h0 hk7 (by decide) (by decide) rfl
    have w5 : wrap64 ((pre.length : Nat) + 1 : Int) = ((pre.length + 1 : Nat) : Int) := wrn _ pn
    rw [laws_heldSeenS.lv0_eq, if_pos (mid_lt pre rest _), if_pos p0]
    simp only [w1, w2, w3, w4, w5, w6, w7, rd_T84, getD_mid]
    rw [if_pos (show (gS x k).f0 = k from rfl), if_pos (show (gS x k).f1 = k + 1 from rfl), if_pos (show (gS x k).f2.f0 = k + 2 from rfl), if_pos (show (gS x k).f2.f1 = k + 3 from rfl), if_pos (show (gS x k).f2.f2 = k + 4 from rfl), if_pos (show (gS x k).f2.f3 = k + 5 from rfl)]) (fun l k => by
    show laws_heldSeenS.lv0 _ _ _ = _
    rw [laws_heldSeenS.lv0_eq, if_neg (by omega)]) l [] k (fun _ _ => ⟨trivial, by decide⟩) hk (by omega) (by simp; omega)
theorem table_held (a c : Int) (L : List S78) (M : List S84) (hL : L.length ≤ 4) (hM : M.length ≤ 6) (hp : ∀ x ∈ L, x.f4.length ≤ 4) :
    ∃ (k : Int) (L2 : List S78) (M2 : List S84), 0 ≤ k ∧ laws_markTable.v a c L M 1 = some (k, L2, M2) ∧ laws_heldTable.v a c L2 M2 1 = some k := by
  have b1 := gtot_le sL 12 L (fun x hx => (sL_range x (hp x hx)).2)
  have b2 := gtot_nonneg sL L (fun x hx => by have := (sL_range x (hp x hx)).1; omega)
  have b3 := gtot_nonneg (fun _ : S84 => (6 : Int)) M (fun _ _ => by decide)
  refine ⟨1 + gtot sL L + gtot (fun _ => 6) M, gmark gL sL L 1, gmark gS (fun _ => 6) M (1 + gtot sL L), by omega, ?_, ?_⟩
  · rw [laws_markTable.v_eq, markLocks_v L 1 hp (by omega) hL (by omega)]
    simp only [Option.bind_some]
    rw [markSeens_v M (1 + gtot sL L) (by omega) (by omega) (by omega)]
    rfl
  · rw [laws_heldTable.v_eq, heldLocks_v L 1 hp (by omega) hL (by omega)]
    simp only [Option.bind_some]
    rw [if_neg (by omega), heldSeens_v M (1 + gtot sL L) (by omega) (by omega) (by omega)]
    simp only [Option.bind_some]
    rw [if_neg (by omega)]
theorem eqWaiters_l (l : List S80) (hl : l.length ≤ 1000000) : ∀ (d : Nat) (i : Int), (l.length - i).toNat = d → 0 ≤ i → laws_eqWaiterS.lv0 l l i = some true
  | 0, i, hd, h0 => by rw [laws_eqWaiterS.lv0_eq, if_neg (by omega)]
  | d + 1, i, hd, h0 => by
    rw [laws_eqWaiterS.lv0_eq, if_pos (by omega), if_pos h0, if_pos (by omega), laws_eqWaiter.v_eq, if_pos rfl, if_pos rfl, Option.bind_some, if_pos rfl, wrap_id (x := i + 1) (by omega) (by omega)]
    exact eqWaiters_l l hl d (i + 1) (by omega) (by omega)
theorem eqWaiters_v (l : List S80) (hl : l.length ≤ 1000000) : laws_eqWaiterS.v l l = some true := by
  rw [laws_eqWaiterS.v_eq, if_pos rfl]
  exact eqWaiters_l l hl _ 0 rfl (by omega)
theorem rdL_len (l : List S78) (hp : ∀ x ∈ l, x.f4.length ≤ 4) (i : Int) (h0 : 0 ≤ i) (h1 : i < l.length) : (rd_T78 l i).f4.length ≤ 4 := by
  apply hp
  obtain ⟨n, rfl⟩ : ∃ n : Nat, i = n := ⟨i.toNat, by omega⟩
  unfold rd_T78
  have hn : n < l.length := by omega
  rw [Int.toNat_natCast, List.getD_eq_getElem?_getD, List.getElem?_eq_getElem hn]
  exact List.getElem_mem hn
theorem eqLocks_l (l : List S78) (hl : l.length ≤ 1000000) (hp : ∀ x ∈ l, x.f4.length ≤ 4) : ∀ (d : Nat) (i : Int), (l.length - i).toNat = d → 0 ≤ i → laws_eqLockS.lv0 l l i = some true
  | 0, i, hd, h0 => by rw [laws_eqLockS.lv0_eq, if_neg (by omega)]
  | d + 1, i, hd, h0 => by
    have := rdL_len l hp i h0 (by omega)
    rw [laws_eqLockS.lv0_eq, if_pos (by omega), if_pos h0, if_pos (by omega), laws_eqLock.v_eq, if_pos rfl, if_pos rfl, if_pos rfl, if_pos rfl, eqWaiters_v _ (by omega), Option.bind_some, if_pos rfl, Option.bind_some, if_pos rfl, wrap_id (x := i + 1) (by omega) (by omega)]
    exact eqLocks_l l hl hp d (i + 1) (by omega) (by omega)
theorem eqSeens_l (l : List S84) (hl : l.length ≤ 1000000) : ∀ (d : Nat) (i : Int), (l.length - i).toNat = d → 0 ≤ i → laws_eqSeenS.lv0 l l i = some true
  | 0, i, hd, h0 => by rw [laws_eqSeenS.lv0_eq, if_neg (by omega)]
  | d + 1, i, hd, h0 => by
    rw [laws_eqSeenS.lv0_eq, if_pos (by omega), if_pos h0, if_pos (by omega), laws_eqSeen.v_eq, if_pos rfl, if_pos rfl, laws_eqAnswer.v_eq]
    simp only [if_true, Option.bind_some]
    rw [wrap_id (x := i + 1) (by omega) (by omega)]
    exact eqSeens_l l hl d (i + 1) (by omega) (by omega)
theorem eqTable_v (a c : Int) (L : List S78) (M : List S84) (hL : L.length ≤ 4) (hM : M.length ≤ 6) (hp : ∀ x ∈ L, x.f4.length ≤ 4) : laws_eqTable.v a c L M a c L M = some true := by
  rw [laws_eqTable.v_eq, if_pos rfl, if_pos rfl, laws_eqLockS.v_eq, if_pos rfl, eqLocks_l L (by omega) hp _ 0 rfl (by omega), Option.bind_some, if_pos rfl, laws_eqSeenS.v_eq, if_pos rfl, eqSeens_l M (by omega) _ 0 rfl (by omega), Option.bind_some, if_pos rfl]
theorem FnExactReadTable_pure (y0 : List Int) : (y0.length ≤ 9223372036854775807 ∧ ∀ y ∈ y0, (Lit.int .u8 y).wf = true) → laws_FnExactReadTable.v y0 = some true := by
  intro h
  rw [laws_FnExactReadTable.v_eq]
  by_cases h1 : (y0.length : Int) > 1048576
  · rw [if_pos h1]
  · obtain ⟨r, e1, e2, hL, hM, hp⟩ := ReadTable_eq y0
    obtain ⟨b', hb1⟩ := markByteS_v y0 (by omega)
    obtain ⟨k, L2, M2, hk, hm1, hm2⟩ := table_held r.1 r.2.1 r.2.2.1 r.2.2.2.1 hL hM hp
    have n1 : ¬ (1 + (y0.length : Int)) < 0 := by omega
    have n2 : ¬ k < 0 := by omega
    simp only [if_neg h1, toByteS_v y0 (by omega), Option.bind_some, e1, e2, eqTable_v _ _ _ _ hL hM hp, if_true, laws_FnExactReadTable.jv0_eq, laws_FnExactReadTable.jv1_eq, laws_FnExactReadTable.jv2_eq, eqByteS_v y0 (by omega), hb1, hm1, hm2, bne_self_eq_false, Bool.false_eq_true, if_false, if_neg n1, if_neg n2]
end Go.Proofs.Ytioocldcdonlpaa.B
end
