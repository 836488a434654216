/-
  A part of a law's proof.
-/
import Derived.Test.YtccimdfmddomaaaDoorAUtqe
namespace Go.Proofs.YtccimdfmddomaaaDoor.AbsA
open Go AbsYtccimdfmddomaaaDoor Abs
set_option maxHeartbeats 4000000
set_option linter.unusedSimpArgs false
set_option linter.unusedVariables false

set_option maxRecDepth 100000
set_option maxHeartbeats 1000000
set_option linter.unusedSimpArgs false
set_option linter.unusedVariables false
theorem app_emp (s : ByteArray) : s ++ ⟨#[]⟩ = s := by apply ByteArray.ext; simp [ByteArray.data_append]
theorem bt_app' {l : List Nat} {s : ByteArray} {i : Nat} (h : i < l.length) (hl : l[i] < 256) : bt (str l ++ s) i = l[i] := by
  have h1 : i < (str l ++ s).size := by rw [size_app, str_size]; omega
  have h2 : (str l ++ s)[i]? = some (str l ++ s)[i] := getElem?_pos _ i h1
  have h3 : (str l ++ s)[i] = (str l)[i]'(by rw [str_size]; exact h) := ByteArray.getElem_append_left (by rw [str_size]; exact h)
  have h4 : (str l)[i]'(by rw [str_size]; exact h) = UInt8.ofNat l[i] := by
    show (str l).data[i]'_ = _
    simp [str]
  unfold bt
  rw [h2, h3, h4]
  simp only
  rw [UInt8.toNat_ofNat']
  omega
theorem bt_str {l : List Nat} {i : Nat} (h : i < l.length) (hl : l[i] < 256) : bt (str l) i = l[i] := by
  have := bt_app' (s := ⟨#[]⟩) h hl
  rwa [app_emp] at this
theorem ba_ext {a b : ByteArray} (hs : a.size = b.size) (h : ∀ j, j < a.size → bt a j = bt b j) : a = b := by
  apply ByteArray.ext
  apply Array.ext
  · exact hs
  · intro i h1 h2
    have e := h i h1
    have e1 : a[i]? = some (a[i]'h1) := getElem?_pos a i h1
    have e2 : b[i]? = some (b[i]'h2) := getElem?_pos b i h2
    unfold bt at e
    rw [e1, e2] at e
    exact UInt8.toNat_inj.1 e
theorem str_extract {l : List Nat} {u : ByteArray} {m : Nat} (hm : m ≤ u.size) (hl : ∀ x ∈ l, x < 256) : str l = u.extract 0 m ↔ l.length = m ∧ ∀ (j : Nat) (h : j < l.length), bt u j = l[j] := by
  have hsz : (u.extract 0 m).size = m := by rw [ByteArray.size_extract]; omega
  constructor
  · intro h
    have h1 : l.length = m := by rw [← str_size, h, hsz]
    refine ⟨h1, fun j hj => ?_⟩
    have := bt_str hj (hl _ (List.getElem_mem _))
    rw [h, bt_extract (by omega) hm, Nat.zero_add] at this
    exact this
  · rintro ⟨h1, h2⟩
    refine ba_ext (by rw [str_size, hsz, h1]) fun j hj => ?_
    rw [str_size] at hj
    rw [bt_str hj (hl _ (List.getElem_mem _)), bt_extract (by omega) hm, Nat.zero_add, h2 j hj]
theorem encU_lt {N : Nat} (h : N ≤ 1114111) : ∀ x ∈ encU N, x < 256 := by
  intro x hx
  unfold encU at hx
  split at hx
  · simp at hx; omega
  · split at hx
    · simp at hx; omega
    · split at hx
      · simp at hx; omega
      · simp at hx; omega
/-- a letter's bytes, all of them told -/
theorem encU_cases (N : Nat) : (N < 128 ∧ encU N = [N]) ∨ (128 ≤ N ∧ N < 2048 ∧ encU N = [192 + N / 64, 128 + N % 64]) ∨ (2048 ≤ N ∧ N < 65536 ∧ encU N = [224 + N / 4096, 128 + N / 64 % 64, 128 + N % 64]) ∨ (65536 ≤ N ∧ encU N = [240 + N / 262144, 128 + N / 4096 % 64, 128 + N / 64 % 64, 128 + N % 64]) := by
  unfold encU
  rcases (by omega : N < 128 ∨ (128 ≤ N ∧ N < 2048) ∨ (2048 ≤ N ∧ N < 65536) ∨ 65536 ≤ N) with h | h | h | h
  · exact .inl ⟨h, by rw [if_pos h]⟩
  · exact .inr (.inl ⟨h.1, h.2, by rw [if_neg (by omega), if_pos h.2]⟩)
  · exact .inr (.inr (.inl ⟨h.1, h.2, by rw [if_neg (by omega), if_neg (by omega), if_pos h.2]⟩))
  · exact .inr (.inr (.inr ⟨h, by rw [if_neg (by omega), if_neg (by omega), if_neg (by omega)]⟩))
/-- u begins with the bytes of the letter N -/
def Begins (u : ByteArray) (N m : Nat) : Prop := okN N ∧ m ≤ u.size ∧ (encU N).length = m ∧ ∀ (j : Nat) (h : j < (encU N).length), bt u j = (encU N)[j]
theorem R_begins {u : ByteArray} {m : Nat} (h : R u m) : ∃ N : Nat, numF u m = N ∧ Begins u N m := by
  obtain ⟨h1, h2, h3⟩ := h
  by_cases ok : okN (numF u m)
  · have hN : numF u m = ((numF u m).toNat : Int) := by have := ok.1; omega
    refine ⟨(numF u m).toNat, hN, by rw [← hN]; exact ok, h1, ?_⟩
    rw [bytesF, if_pos ok] at h3
    exact (str_extract h1 (encU_lt (by have := ok.2.1; omega))).1 h3
  · rw [bytesF, if_neg ok] at h2; exact (h2 rfl).elim
theorem begins_R {u : ByteArray} {N m : Nat} (hn : numF u m = N) (h : Begins u N m) : R u m := by
  obtain ⟨ok, h1, h2, h3⟩ := h
  have hb : bytesF (numF u m) = str (encU N) := by rw [hn, bytesF, if_pos ok]; rfl
  have hx := (str_extract h1 (encU_lt (by have := ok.2.1; omega))).2 ⟨h2, h3⟩
  refine ⟨h1, ?_, by rw [hb]; exact hx⟩
  rw [hb]
  intro e
  have := congrArg ByteArray.size e
  rw [str_size] at this
  have h0 : emp.size = 0 := rfl
  rcases encU_cases N with ⟨_, e⟩ | ⟨_, _, e⟩ | ⟨_, _, e⟩ | ⟨_, e⟩ <;> rw [e] at this <;> simp [h0] at this
theorem firstI_of {u : ByteArray} {fo n0 le : Nat} (h : shapeF (bt u 0) = (fo, n0, le)) : firstI u = if u.size ≤ fo then 0 else if cont u fo then (if acc u n0 fo < le ∨ bad (acc u n0 fo) then 0 else fo + 1) else 0 := by
  unfold firstI; rw [h]
theorem okN_bad {N : Nat} (h : okN N) : ¬ bad N := by unfold okN at h; unfold bad; omega
/-- a letter's bytes at the beginning are found -/
theorem begins_first {u : ByteArray} {N m : Nat} (h : Begins u N m) : firstI u = m := by
  obtain ⟨ok, h1, h2, h3⟩ := h
  have hbad := okN_bad ok
  have ok1 := ok.1
  have ok2 := ok.2.1
  rcases encU_cases N with ⟨a, e⟩ | ⟨a, b, e⟩ | ⟨a, b, e⟩ | ⟨a, e⟩ <;> simp only [e] at h2 h3 <;> simp only [List.length_cons, List.length_nil] at h2 h3
  · have c0 := h3 0 (by omega); simp only [List.getElem_cons_zero] at c0
    have hsh : shapeF (bt u 0) = (0, N, 1) := by unfold shapeF; rw [if_pos (by omega), c0]
    have hct : cont u 0 := fun j hj => by omega
    have ha : acc u N 0 = N := rfl
    rw [firstI_of hsh, if_neg (by omega), if_pos hct, ha, if_neg (fun h => h.elim (fun x => by omega) hbad)]; omega
  · have c0 := h3 0 (by omega); have c1 := h3 1 (by omega)
    simp only [List.getElem_cons_zero, List.getElem_cons_succ] at c0 c1
    have hsh : shapeF (bt u 0) = (1, bt u 0 % 32, 128) := by unfold shapeF; rw [if_neg (by omega), if_pos (by omega)]
    have ha : acc u (bt u 0 % 32) 1 = N := by simp only [acc, Nat.zero_add]; rw [c0, c1]; omega
    have hct : cont u 1 := fun j hj => by
      obtain rfl : j = 0 := by omega
      simp only [Nat.zero_add]; rw [c1]; omega
    rw [firstI_of hsh, if_neg (by omega), if_pos hct, ha, if_neg (fun h => h.elim (fun x => by omega) hbad)]; omega
  · have c0 := h3 0 (by omega); have c1 := h3 1 (by omega); have c2 := h3 2 (by omega)
    simp only [List.getElem_cons_zero, List.getElem_cons_succ] at c0 c1 c2
    have hsh : shapeF (bt u 0) = (2, bt u 0 % 16, 2048) := by unfold shapeF; rw [if_neg (by omega), if_neg (by omega), if_pos (by omega)]
    have ha : acc u (bt u 0 % 16) 2 = N := by simp only [acc, Nat.zero_add, Nat.reduceAdd]; rw [c0, c1, c2]; omega
    have hct : cont u 2 := fun j hj => by
      rcases (by omega : j = 0 ∨ j = 1) with rfl | rfl
      · simp only [Nat.zero_add]; rw [c1]; omega
      · simp only [Nat.reduceAdd]; rw [c2]; omega
    rw [firstI_of hsh, if_neg (by omega), if_pos hct, ha, if_neg (fun h => h.elim (fun x => by omega) hbad)]; omega
  · have c0 := h3 0 (by omega); have c1 := h3 1 (by omega); have c2 := h3 2 (by omega); have c3 := h3 3 (by omega)
    simp only [List.getElem_cons_zero, List.getElem_cons_succ] at c0 c1 c2 c3
    have hsh : shapeF (bt u 0) = (3, bt u 0 % 8, 65536) := by unfold shapeF; rw [if_neg (by omega), if_neg (by omega), if_neg (by omega), if_pos (by omega)]
    have ha : acc u (bt u 0 % 8) 3 = N := by simp only [acc, Nat.zero_add, Nat.reduceAdd]; rw [c0, c1, c2, c3]; omega
    have hct : cont u 3 := fun j hj => by
      rcases (by omega : j = 0 ∨ j = 1 ∨ j = 2) with rfl | rfl | rfl
      · simp only [Nat.zero_add]; rw [c1]; omega
      · simp only [Nat.reduceAdd]; rw [c2]; omega
      · simp only [Nat.reduceAdd]; rw [c3]; omega
    rw [firstI_of hsh, if_neg (by omega), if_pos hct, ha, if_neg (fun h => h.elim (fun x => by omega) hbad)]; omega
/-- what is found is a letter -/
theorem first_begins {u : ByteArray} {m : Nat} (hm : 0 < m) (h : firstI u = m) : m ≤ 4 ∧ ∃ N : Nat, numF u m = N ∧ Begins u N m := by
  have hc := bt_lt u 0
  have mk : ∀ {N : Nat} {l : List Nat}, okN N → encU N = l → l.length = m → m ≤ u.size → (∀ (j : Nat) (h : j < l.length), bt u j = l[j]) → Begins u N m := fun h1 h2 h3 h4 h5 => by
    subst h2; exact ⟨h1, h4, h3, h5⟩
  rcases (by omega : bt u 0 = 0 ∨ (1 ≤ bt u 0 ∧ bt u 0 < 128) ∨ (128 ≤ bt u 0 ∧ bt u 0 < 192) ∨ (192 ≤ bt u 0 ∧ bt u 0 < 224) ∨ (224 ≤ bt u 0 ∧ bt u 0 < 240) ∨ (240 ≤ bt u 0 ∧ bt u 0 < 248) ∨ 248 ≤ bt u 0) with c | c | c | c | c | c | c
  case inr.inl =>
    rw [firstI_of (fo := 0) (n0 := bt u 0) (le := 1) (by unfold shapeF; rw [if_pos c])] at h
    split at h
    · omega
    · split at h
      · split at h
        · omega
        · obtain rfl : m = 1 := by omega
          refine ⟨by omega, bt u 0, by simp [numF], mk (l := [bt u 0]) (by unfold okN; omega) (by unfold encU; rw [if_pos (by omega)]) rfl (by omega) fun j hj => ?_⟩
          obtain rfl : j = 0 := by simp at hj; omega
          rfl
      · omega
  case inr.inr.inr.inl =>
    rw [firstI_of (fo := 1) (n0 := bt u 0 % 32) (le := 128) (by unfold shapeF; rw [if_neg (by omega), if_pos c])] at h
    split at h
    · omega
    · split at h
      · rename_i hcont
        have k1 := hcont 0 (by omega); simp only [Nat.zero_add] at k1
        split at h
        · omega
        · rename_i hno
          obtain rfl : m = 2 := by omega
          unfold bad at hno
          simp only [acc, Nat.zero_add] at hno
          refine ⟨by omega, bt u 0 % 32 * 64 + bt u 1 % 64, ?_, mk (l := [bt u 0, bt u 1]) (by unfold okN; omega) (by unfold encU; rw [if_neg (by omega), if_pos (by omega)]; simp only [List.cons.injEq, and_true]; constructor <;> omega) rfl (by omega) fun j hj => ?_⟩
          · simp only [numF, nacc, Nat.reduceSub, Nat.zero_add]; simp; omega
          · rcases (by simp at hj; omega : j = 0 ∨ j = 1) with rfl | rfl <;> rfl
      · omega
  case inr.inr.inr.inr.inl =>
    rw [firstI_of (fo := 2) (n0 := bt u 0 % 16) (le := 2048) (by unfold shapeF; rw [if_neg (by omega), if_neg (by omega), if_pos c])] at h
    split at h
    · omega
    · split at h
      · rename_i hcont
        have k1 := hcont 0 (by omega); have k2 := hcont 1 (by omega); simp only [Nat.zero_add, Nat.reduceAdd] at k1 k2
        split at h
        · omega
        · rename_i hno
          obtain rfl : m = 3 := by omega
          unfold bad at hno
          simp only [acc, Nat.zero_add, Nat.reduceAdd] at hno
          refine ⟨by omega, (bt u 0 % 16 * 64 + bt u 1 % 64) * 64 + bt u 2 % 64, ?_, mk (l := [bt u 0, bt u 1, bt u 2]) (by unfold okN; omega) (by unfold encU; rw [if_neg (by omega), if_neg (by omega), if_pos (by omega)]; simp only [List.cons.injEq, and_true]; refine ⟨?_, ?_, ?_⟩ <;> omega) rfl (by omega) fun j hj => ?_⟩
          · simp only [numF, nacc, Nat.reduceSub, Nat.zero_add, Nat.reduceAdd]; simp; omega
          · rcases (by simp at hj; omega : j = 0 ∨ j = 1 ∨ j = 2) with rfl | rfl | rfl <;> rfl
      · omega
  case inr.inr.inr.inr.inr.inl =>
    rw [firstI_of (fo := 3) (n0 := bt u 0 % 8) (le := 65536) (by unfold shapeF; rw [if_neg (by omega), if_neg (by omega), if_neg (by omega), if_pos c])] at h
    split at h
    · omega
    · split at h
      · rename_i hcont
        have k1 := hcont 0 (by omega); have k2 := hcont 1 (by omega); have k3 := hcont 2 (by omega); simp only [Nat.zero_add, Nat.reduceAdd] at k1 k2 k3
        split at h
        · omega
        · rename_i hno
          obtain rfl : m = 4 := by omega
          unfold bad at hno
          simp only [acc, Nat.zero_add, Nat.reduceAdd] at hno
          refine ⟨by omega, ((bt u 0 % 8 * 64 + bt u 1 % 64) * 64 + bt u 2 % 64) * 64 + bt u 3 % 64, ?_, mk (l := [bt u 0, bt u 1, bt u 2, bt u 3]) (by unfold okN; omega) (by unfold encU; rw [if_neg (by omega), if_neg (by omega), if_neg (by omega)]; simp only [List.cons.injEq, and_true]; refine ⟨?_, ?_, ?_, ?_⟩ <;> omega) rfl (by omega) fun j hj => ?_⟩
          · simp only [numF, nacc, Nat.reduceSub, Nat.zero_add, Nat.reduceAdd]; simp; omega
          · rcases (by simp at hj; omega : j = 0 ∨ j = 1 ∨ j = 2 ∨ j = 3) with rfl | rfl | rfl | rfl <;> rfl
      · omega
  all_goals
    rw [firstI_of (fo := 0) (n0 := 0) (le := 1) (by unfold shapeF; rw [if_neg (by omega), if_neg (by omega), if_neg (by omega), if_neg (by omega)])] at h
    split at h
    · omega
    · split at h
      · rw [if_pos (.inl (by simp [acc]))] at h; omega
      · omega
theorem firstI_le (u : ByteArray) : firstI u ≤ 4 := by
  rcases Nat.eq_zero_or_pos (firstI u) with h | h
  · omega
  · exact (first_begins h rfl).1
theorem firstI_size (u : ByteArray) : firstI u ≤ u.size := by
  rcases Nat.eq_zero_or_pos (firstI u) with h | h
  · omega
  · obtain ⟨_, N, _, h2⟩ := first_begins h rfl
    exact h2.2.1
end Go.Proofs.YtccimdfmddomaaaDoor.AbsA
