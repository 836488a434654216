/-
  A part of a law's proof.
-/
import Derived.Test.YtlmcjfnignbdoaaDoorAUtg
namespace Go.Proofs.YtlmcjfnignbdoaaDoor.AbsB
open Go AbsYtlmcjfnignbdoaaDoor Abs
set_option maxRecDepth 100000
set_option maxHeartbeats 1000000
set_option linter.unusedSimpArgs false
set_option linter.unusedVariables false
/-- from a on s has the bytes of the letter N -/
def BeginsAt (s : ByteArray) (a N m : Nat) : Prop := okN N ∧ a + m ≤ s.size ∧ (encU N).length = m ∧ ∀ (j : Nat) (h : j < (encU N).length), bt s (a + j) = (encU N)[j]
theorem at_begins {s : ByteArray} {a N m : Nat} (ha : a ≤ s.size) : Begins (s.extract a s.size) N m ↔ BeginsAt s a N m := by
  have hsz : (s.extract a s.size).size = s.size - a := by rw [ByteArray.size_extract]; omega
  constructor
  · rintro ⟨h1, h2, h3, h4⟩
    refine ⟨h1, by omega, h3, fun j hj => ?_⟩
    rw [← h4 j hj, bt_extract (by omega) (Nat.le_refl _)]
  · rintro ⟨h1, h2, h3, h4⟩
    refine ⟨h1, by omega, h3, fun j hj => ?_⟩
    rw [← h4 j hj, bt_extract (by omega) (Nat.le_refl _)]
theorem step_of {s : ByteArray} {a N m : Nat} (h : BeginsAt s a N m) : stepF s a = m := begins_first ((at_begins (by have := h.2.1; omega)).2 h)
theorem of_step {s : ByteArray} {a : Nat} (ha : a ≤ s.size) (h : 0 < stepF s a) : ∃ N, BeginsAt s a N (stepF s a) := by
  obtain ⟨_, N, _, h2⟩ := first_begins h rfl
  exact ⟨N, (at_begins ha).1 h2⟩
theorem BeginsAt.same {s s' : ByteArray} {a N m k : Nat} (h : BeginsAt s a N m) (hk : a + m ≤ k) (hs : k ≤ s'.size) (hb : ∀ j, j < k → bt s' j = bt s j) : BeginsAt s' a N m := by
  obtain ⟨h1, h2, h3, h4⟩ := h
  exact ⟨h1, by omega, h3, fun j hj => by rw [hb _ (by omega)]; exact h4 j hj⟩
theorem walk_le {s : ByteArray} : ∀ (d a n : Nat), s.size - a ≤ d → a ≤ s.size → a ≤ (walkF s a n).2 ∧ (walkF s a n).2 ≤ s.size ∧ ((walkF s a n).2 < s.size → stepF s (walkF s a n).2 = 0) := by
  intro d
  induction d with
  | zero =>
    intro a n hd ha
    rw [walk_end (by omega)]
    exact ⟨Nat.le_refl _, ha, fun h => by simp at h; omega⟩
  | succ d ih =>
    intro a n hd ha
    by_cases hc : a < s.size ∧ 0 < stepF s a
    · rw [walk_next hc.1 hc.2]
      have := ih (a + stepF s a) (n + 1) (by omega) (stepF_le s ha)
      exact ⟨by omega, this.2⟩
    · rw [walk_end hc]
      exact ⟨Nat.le_refl _, ha, fun h => by simp at h ⊢; omega⟩
/-- letters in s are letters in what begins alike -/
theorem walk_same {s s' : ByteArray} {k m : Nat} (hs : k ≤ s'.size) (hb : ∀ j, j < k → bt s' j = bt s j) : ∀ (d a n : Nat), s.size - a ≤ d → a ≤ s.size → walkF s a n = (m, k) → walkF s' a n = walkF s' k m := by
  intro d
  induction d with
  | zero =>
    intro a n hd ha hw
    rw [walk_end (by omega)] at hw
    injection hw with h1 h2; subst h1; subst h2; rfl
  | succ d ih =>
    intro a n hd ha hw
    by_cases hc : a < s.size ∧ 0 < stepF s a
    · rw [walk_next hc.1 hc.2] at hw
      have hle := walk_le (s := s) (s.size - (a + stepF s a)) (a + stepF s a) (n + 1) (Nat.le_refl _) (stepF_le s ha)
      rw [hw] at hle
      obtain ⟨N, hN⟩ := of_step ha hc.2
      have hN' := hN.same (s' := s') hle.1 hs hb
      have e := step_of hN'
      have := hle.1
      rw [walk_next (s := s') (a := a) (by simp at this; omega) (by rw [e]; exact hc.2), e]
      exact ih _ _ (by omega) (stepF_le s ha) hw
    · rw [walk_end hc] at hw
      injection hw with h1 h2; subst h1; subst h2; rfl
theorem walk_size {s : ByteArray} {n : Nat} : walkF s s.size n = (n, s.size) := walk_end (by omega)
/-- what stands ahead of the cut is a text -/
theorem walk_cut {s : ByteArray} {m k : Nat} (h : walkF s 0 0 = (m, k)) : walkF (s.extract 0 k) 0 0 = (m, k) := by
  have hle := walk_le (s := s) s.size 0 0 (by omega) (by omega)
  rw [h] at hle
  have hk : k ≤ s.size := hle.2.1
  have hsz : (s.extract 0 k).size = k := by rw [ByteArray.size_extract]; omega
  rw [walk_same (s := s) (k := k) (m := m) (by omega) (fun j hj => by rw [bt_extract (by omega) hk, Nat.zero_add]) s.size 0 0 (by omega) (by omega) h]
  have := walk_size (s := s.extract 0 k) (n := m)
  rwa [hsz] at this
theorem step_shift {s t : ByteArray} {a : Nat} (ha : a ≤ t.size) : stepF (s ++ t) (s.size + a) = stepF t a := by
  unfold stepF
  congr 1
  have h1 : ((s ++ t).extract (s.size + a) (s ++ t).size).size = t.size - a := by rw [ByteArray.size_extract, size_app]; omega
  have h2 : (t.extract a t.size).size = t.size - a := by rw [ByteArray.size_extract]; omega
  refine ba_ext (by rw [h1, h2]) fun j hj => ?_
  rw [h1] at hj
  rw [bt_extract (by rw [size_app]; omega) (Nat.le_refl _), bt_extract (by omega) (Nat.le_refl _)]
  have e1 : (s ++ t)[s.size + a + j]? = some ((s ++ t)[s.size + a + j]'(by rw [size_app]; omega)) := getElem?_pos (s ++ t) (s.size + a + j) (by rw [size_app]; omega)
  have e2 : t[a + j]? = some (t[a + j]'(by omega)) := getElem?_pos t (a + j) (by omega)
  unfold bt
  rw [e1, e2]
  simp only
  congr 1
  rw [ByteArray.getElem_append_right (by omega)]
  congr 1; omega
theorem walk_shift {s t : ByteArray} : ∀ (d a n c : Nat), t.size - a ≤ d → a ≤ t.size → walkF (s ++ t) (s.size + a) (c + n) = (c + (walkF t a n).1, s.size + (walkF t a n).2) := by
  intro d
  induction d with
  | zero =>
    intro a n c hd ha
    rw [walk_end (s := t) (by omega), walk_end (by rw [size_app]; omega)]
  | succ d ih =>
    intro a n c hd ha
    by_cases hc : a < t.size ∧ 0 < stepF t a
    · rw [walk_next (s := t) hc.1 hc.2, walk_next (s := s ++ t) (by rw [size_app]; omega) (by rw [step_shift ha]; exact hc.2), step_shift ha, Nat.add_assoc, Nat.add_assoc]
      exact ih _ _ _ (by omega) (stepF_le t ha)
    · rw [walk_end (s := t) hc, walk_end (by rw [step_shift ha, size_app]; omega)]
/-- two texts together are one -/
theorem walk_app {s t : ByteArray} {a b : Nat} (h1 : walkF s 0 0 = (a, s.size)) (h2 : walkF t 0 0 = (b, t.size)) : walkF (s ++ t) 0 0 = (a + b, (s ++ t).size) := by
  have hb : ∀ j, j < s.size → bt (s ++ t) j = bt s j := fun j hj => by
    have e1 : (s ++ t)[j]? = some ((s ++ t)[j]'(by rw [size_app]; omega)) := getElem?_pos (s ++ t) j (by rw [size_app]; omega)
    have e2 : s[j]? = some s[j] := getElem?_pos s j hj
    unfold bt
    rw [e1, e2]
    simp only
    congr 1
    exact ByteArray.getElem_append_left hj
  rw [walk_same (s := s) (s' := s ++ t) (k := s.size) (m := a) (by rw [size_app]; omega) hb s.size 0 0 (by omega) (by omega) h1]
  have := walk_shift (s := s) (t := t) t.size 0 0 a (by omega) (by omega)
  rw [h2] at this
  rw [size_app]
  simpa using this
/-- nothing but one letter over and over -/
theorem walk_all {w : ByteArray} (h : ∀ j, j < w.size → bt w j = 97) : ∀ (d a n : Nat), w.size - a = d → a ≤ w.size → walkF w a n = (n + d, w.size) := by
  intro d
  induction d with
  | zero =>
    intro a n hd ha
    obtain rfl : a = w.size := by omega
    exact walk_size
  | succ d ih =>
    intro a n hd ha
    have hst : stepF w a = 1 := step_of (N := 97) ⟨by unfold okN; omega, by omega, rfl, fun j hj => by
      have : j = 0 := by simp [encU] at hj; omega
      subst this
      rw [h _ (by omega)]; rfl⟩
    rw [walk_next (by omega) (by omega), hst, ih (a + 1) (n + 1) (by omega) (by omega)]
    congr 1; omega
theorem encU_len (N : Nat) : 1 ≤ (encU N).length ∧ (encU N).length ≤ 4 := by
  rcases encU_cases N with ⟨_, e⟩ | ⟨_, _, e⟩ | ⟨_, _, e⟩ | ⟨_, e⟩ <;> rw [e] <;> simp
theorem letter_at {N : Nat} (h : okN N) : BeginsAt (str (encU N)) 0 N (encU N).length := by
  refine ⟨h, by rw [str_size]; omega, rfl, fun j hj => ?_⟩
  rw [Nat.zero_add, bt_str hj (encU_lt (by have := h.2.1; omega) _ (List.getElem_mem _))]
/-- a letter is a text of one letter -/
theorem letter_text {N : Nat} (h : okN N) : textF (str (encU N)) = .inl 1 := by
  have hl := encU_len N
  have hst := step_of (letter_at h)
  have hw : walkF (str (encU N)) 0 0 = (1, (encU N).length) := by
    rw [walk_next (by rw [str_size]; omega) (by rw [hst]; omega), hst, Nat.zero_add]
    have := walk_size (s := str (encU N)) (n := 0 + 1)
    rwa [str_size] at this
  unfold textF
  rw [hw, if_neg (by rw [str_size]; omega), if_neg (by rw [str_size]; simp)]
/-- a part of a letter is none -/
theorem letter_part {N k : Nat} (h : okN N) (h0 : 0 < k) (hk : k < (encU N).length) : textF ((str (encU N)).extract 0 k) = .inr (1, 0) := by
  have hl := encU_len N
  have hsz : ((str (encU N)).extract 0 k).size = k := by rw [ByteArray.size_extract, str_size]; omega
  have hst : stepF ((str (encU N)).extract 0 k) 0 = 0 := by
    rcases Nat.eq_zero_or_pos (stepF ((str (encU N)).extract 0 k) 0) with h1 | h1
    · exact h1
    · obtain ⟨M, hM⟩ := of_step (by omega) h1
      have hle := hM.2.1
      rw [hsz] at hle
      have := step_of (hM.same (s' := str (encU N)) (k := k) hle (by rw [str_size]; omega) fun j hj => by rw [bt_extract (by omega) (by rw [str_size]; omega), Nat.zero_add])
      rw [step_of (letter_at h)] at this
      omega
  have hw : walkF ((str (encU N)).extract 0 k) 0 0 = (0, 0) := walk_end (by rw [hst]; omega)
  unfold textF
  rw [hw, hsz, if_neg (by omega), if_pos h0]
end Go.Proofs.YtlmcjfnignbdoaaDoor.AbsB
