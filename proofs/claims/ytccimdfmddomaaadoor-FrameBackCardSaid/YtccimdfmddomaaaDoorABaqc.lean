/-
  A part of a law's proof.
-/
import Derived.Test.YtccimdfmddomaaaDoorABaqb
namespace Go.Proofs.YtccimdfmddomaaaDoor.AbsA
open Go AbsYtccimdfmddomaaaDoor Abs
set_option maxRecDepth 100000
set_option maxHeartbeats 4000000
set_option linter.unusedSimpArgs false
set_option linter.unusedVariables false
theorem bt_ext {S : ByteArray} {i j : Nat} (h : i < j) (hj : j ≤ S.size) : bt (S.extract 0 j) i = bt S i := by
  have h1 : i < (S.extract 0 j).size := by rw [ByteArray.size_extract]; omega
  have h2 : i < S.size := by omega
  unfold bt
  rw [getElem?_pos (S.extract 0 j) i h1, getElem?_pos S i h2, ByteArray.getElem_extract]
  simp only [Nat.zero_add]
theorem take_short {S : ByteArray} (hb : ∀ i, i < S.size → 128 ≤ bt S i) : ∀ (k i n : Nat), i ≤ S.size → S.size - i < k → takeF S k i n = .inr (0, S.size)
  | 0, i, n, h1, h2 => by omega
  | k + 1, i, n, h1, h2 => by
    unfold takeF
    by_cases h3 : i = S.size
    · rw [if_pos h3, h3]
    · rw [if_neg h3, if_neg (by have := hb i (by omega); omega)]
      exact take_short hb k (i + 1) _ (by omega) (by omega)
theorem ext_size {S : ByteArray} {j : Nat} (h : j ≤ S.size) : (S.extract 0 j).size = j := by rw [ByteArray.size_extract]; omega
theorem var_cut (x : ByteArray) {N j : Nat} (hN : N < 268435456) (hj : j < vsize N) : ∃ q, varR (x ++ (str (enc N)).extract 0 j) x.size = .error (1, q) := by
  have hv := vsize_pos N
  have hs : (str (enc N)).size = vsize N := by rw [str_size, enc_len]
  have hz := ext_size (S := str (enc N)) (j := j) (by omega)
  have ht : takeF ((str (enc N)).extract 0 j) 4 0 0 = .inr (0, j) := by
    have := take_short (S := (str (enc N)).extract 0 j) (fun i hi => by
      rw [hz] at hi
      rw [bt_ext hi (by omega)]
      have := bt_enc (N := N) (s := emp) (i := i) (by omega)
      rw [app_emp', if_pos (by omega)] at this
      omega) 4 0 0 (by omega) (by omega)
    rw [this, hz]
  refine ⟨x.size + j, ?_⟩
  unfold varR
  rw [ext_tail, ht]
theorem ext_app (A C : ByteArray) {j : Nat} (h : A.size ≤ j) : (A ++ C).extract 0 j = A ++ C.extract 0 (j - A.size) := by
  obtain ⟨A⟩ := A
  obtain ⟨C⟩ := C
  have h : A.size ≤ j := h
  apply ByteArray.ext
  simp only [ByteArray.data_extract, ByteArray.data_append, ByteArray.size]
  rw [Array.extract_append]
  simp only [Nat.zero_sub]
  congr 1
  exact Array.extract_eq_self_of_le (by simpa using h) 
theorem ext_left (A C : ByteArray) {j : Nat} (h : j ≤ A.size) : (A ++ C).extract 0 j = A.extract 0 j := by
  obtain ⟨A⟩ := A
  obtain ⟨C⟩ := C
  have h : j ≤ A.size := h
  apply ByteArray.ext
  simp only [ByteArray.data_extract, ByteArray.data_append, ByteArray.size]
  rw [Array.extract_append]
  simp [Nat.sub_eq_zero_of_le h]
theorem bin_cut (x s : ByteArray) {j : Nat} (hs : s.size ≤ 65535) (hj : j < (numB s.size 2 ++ s).size) : ∃ q, binR (x ++ (numB s.size 2 ++ s).extract 0 j) x.size = .error (1, q) := by
  have hn : (numB s.size 2).size = 2 := numB_k (by omega)
  rw [size_app, hn] at hj
  by_cases h2 : j < 2
  · refine ⟨(x ++ (numB s.size 2 ++ s).extract 0 j).size, ?_⟩
    unfold binR
    rw [num_cut x _ (k := 2) (by rw [ext_size (by rw [size_app]; omega)]; exact h2)]
  · rw [ext_app _ _ (by omega), hn]
    have h1 := num_mid x (s.extract 0 (j - 2)) (n := s.size) (k := 2) (by omega) (by omega)
    have h3 := raw_cut (x ++ numB s.size 2) (s.extract 0 (j - 2)) (n := s.size) (by rw [ext_size (by omega)]; omega)
    rw [size_app, hn] at h3
    refine ⟨(x ++ numB s.size 2 ++ s.extract 0 (j - 2)).size, ?_⟩
    unfold binR
    rw [← app_assoc, h1]
    simp only
    exact h3
theorem rdA_cut (x : ByteArray) {a : Act} {m : ByteArray} {j : Nat} (hk : kindOk a.k) (h : actW a = .inl m) (hj : j < m.size) : ∃ q, rdA a.k (x ++ m.extract 0 j) x.size = .error (1, q) := by
  obtain ⟨k, n, s⟩ := a
  simp only [actW] at h
  simp only [rdA]
  rcases hk with hk | hk | hk | hk | hk | hk
  all_goals
    simp only at hk
    subst hk
    simp only [Int.reduceEq, if_true, if_false, Int.reduceLT] at h ⊢
  · unfold numW at h
    split at h
    · cases h
    · injection h with h; subst h
      have hz : (numB n.toNat 1).size = 1 := numB_k (by omega)
      rw [num_cut x _ (by rw [ext_size (by omega)]; omega)]
      exact ⟨_, rfl⟩
  · unfold numW at h
    split at h
    · cases h
    · injection h with h; subst h
      have hz : (numB n.toNat 2).size = 2 := numB_k (by omega)
      rw [num_cut x _ (by rw [ext_size (by omega)]; omega)]
      exact ⟨_, rfl⟩
  · unfold numW at h
    split at h
    · cases h
    · injection h with h; subst h
      have hz : (numB n.toNat 4).size = 4 := numB_k (by omega)
      rw [num_cut x _ (by rw [ext_size (by omega)]; omega)]
      exact ⟨_, rfl⟩
  · unfold varW at h
    split at h
    · cases h
    · rename_i hb
      injection h with h; subst h
      rw [str_size, enc_len] at hj
      obtain ⟨q, hq⟩ := var_cut x (N := n.toNat) (by omega) hj
      exact ⟨q, by rw [hq]; rfl⟩
  · unfold textW at h
    split at h
    · cases h
    · rename_i m' hm
      rw [binW_inl (textF_inl hm)] at h
      injection h with h; subst h
      obtain ⟨q, hq⟩ := bin_cut x s (textF_inl hm) hj
      exact ⟨q, by unfold textR; rw [hq]; rfl⟩
  · unfold binW at h
    split at h
    · cases h
    · injection h with h; subst h
      obtain ⟨q, hq⟩ := bin_cut x s (by omega) hj
      exact ⟨q, by rw [hq]; rfl⟩
/-- the bytes of fields -/
def catW : List Act → Option ByteArray
  | [] => some emp
  | a :: l => match actW a, catW l with
    | .inl m, some b => some (m ++ b)
    | _, _ => none
theorem emp_app' (a : ByteArray) : emp ++ a = a := by
  apply ByteArray.ext
  simp [ByteArray.data_append, emp]
theorem catW_app : ∀ {l k : List Act} {b c : ByteArray}, catW l = some b → catW k = some c → catW (l ++ k) = some (b ++ c)
  | [], k, b, c, h, h' => by simp only [catW, Option.some.injEq] at h; subst h; rw [List.nil_append, emp_app']; exact h'
  | a :: l, k, b, c, h, h' => by
    simp only [catW, List.cons_append] at h ⊢
    split at h
    · rename_i m d hm hd
      injection h with h; subst h
      rw [hm, catW_app hd h', app_assoc]
    · cases h
theorem catW_split : ∀ {l k : List Act} {c : ByteArray}, catW (l ++ k) = some c → ∃ b d, catW l = some b ∧ catW k = some d ∧ c = b ++ d
  | [], k, c, h => ⟨emp, c, rfl, h, by rw [emp_app']⟩
  | a :: l, k, c, h => by
    simp only [catW, List.cons_append] at h ⊢
    split at h
    · rename_i m e hm he
      injection h with h; subst h
      obtain ⟨b, d, h1, h2, rfl⟩ := catW_split he
      exact ⟨m ++ b, d, by rw [hm, h1], h2, by rw [app_assoc]⟩
    · cases h
theorem catW_one {a : Act} {m : ByteArray} (h : actW a = .inl m) : catW [a] = some m := by
  simp only [catW, h, app_emp']
theorem catW_at {l : List Act} {c : ByteArray} (h : catW l = some c) {i : Nat} (hi : i < l.length) : ∃ b m d, catW (l.take i) = some b ∧ actW l[i] = .inl m ∧ catW (l.take (i + 1)) = some (b ++ m) ∧ c = b ++ m ++ d := by
  have e : l = l.take i ++ ([l[i]] ++ l.drop (i + 1)) := by simp
  rw [e] at h
  obtain ⟨b, d, h1, h2, rfl⟩ := catW_split h
  obtain ⟨m, d, h3, h4, rfl⟩ := catW_split h2
  have hm : actW l[i] = .inl m := by
    simp only [catW] at h3
    cases ha : actW l[i] with
    | inl m' => rw [ha] at h3; simp only [Option.some.injEq, app_emp'] at h3; rw [h3]
    | inr e => rw [ha] at h3; simp at h3
  exact ⟨b, m, d, h1, hm, by rw [List.take_succ_eq_append_getElem hi]; exact catW_app h1 (catW_one hm), by rw [app_assoc]⟩
theorem catW_le : ∀ {l : List Act} {c : ByteArray}, catW l = some c → (∀ a ∈ l, a.s.size ≤ 200) → c.size ≤ 204 * l.length
  | [], c, h, _ => by simp only [catW, Option.some.injEq] at h; subst h; show emp.size ≤ _; have : emp.size = 0 := rfl; omega
  | a :: l, c, h, ha => by
    simp only [catW] at h
    split at h
    · rename_i m d hm hd
      injection h with h; subst h
      have h1 := actW_size hm
      have h2 := catW_le hd fun a' h' => ha a' (List.mem_cons_of_mem _ h')
      have h3 := ha a (by simp)
      rw [size_app, List.length_cons]
      omega
    · cases h
end Go.Proofs.YtccimdfmddomaaaDoor.AbsA
