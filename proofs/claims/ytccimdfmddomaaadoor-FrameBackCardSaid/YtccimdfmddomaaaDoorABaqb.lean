/-
  A part of a law's proof.
-/
import Derived.Test.YtccimdfmddomaaaDoorARdqe
namespace Go.Proofs.YtccimdfmddomaaaDoor.AbsA
open Go AbsYtccimdfmddomaaaDoor Abs
set_option maxRecDepth 100000
set_option maxHeartbeats 4000000
set_option linter.unusedSimpArgs false
set_option linter.unusedVariables false
theorem ext_tail (x y : ByteArray) : (x ++ y).extract x.size (x ++ y).size = y := by
  obtain ⟨x⟩ := x
  obtain ⟨y⟩ := y
  apply ByteArray.ext
  simp only [ByteArray.data_extract, ByteArray.data_append, ByteArray.size, Array.size_append]
  rw [Array.extract_append]
  simp
theorem ext_mid (x m y : ByteArray) : (x ++ m ++ y).extract x.size (x.size + m.size) = m := by
  obtain ⟨x⟩ := x
  obtain ⟨m⟩ := m
  obtain ⟨y⟩ := y
  apply ByteArray.ext
  simp only [ByteArray.data_extract, ByteArray.data_append, ByteArray.size]
  rw [Array.extract_append, Array.extract_append]
  simp
theorem raw_mid (x m y : ByteArray) : rawR (x ++ m ++ y) x.size (m.size : Int) = .ok (m, x.size + m.size) := by
  unfold rawR
  rw [if_neg (by omega), Int.toNat_natCast, if_neg (by simp only [size_app]; omega), ext_mid]
theorem raw_cut (x m : ByteArray) {n : Nat} (h : m.size < n) : rawR (x ++ m) x.size (n : Int) = .error (1, (x ++ m).size) := by
  unfold rawR
  rw [if_neg (by omega), Int.toNat_natCast, if_pos (by simp only [size_app]; omega)]
theorem bt_strL {l : List Nat} {i : Nat} (h : i < l.length) (hl : l[i] < 256) : bt (str l) i = l[i] := by
  have := bt_app (s := emp) h hl
  rw [app_emp'] at this; exact this
theorem beF_one {a : Nat} (h : a < 256) : beF (str [a]) 1 = a := by
  simp only [beF, bt_strL (l := [a]) (i := 0) (by simp) h]
  simp
theorem beF_two {a b : Nat} (ha : a < 256) (hb : b < 256) : beF (str [a, b]) 2 = a * 256 + b := by
  simp only [beF, bt_strL (l := [a, b]) (i := 0) (by simp) ha, bt_strL (l := [a, b]) (i := 1) (by simp) hb]
  simp
theorem beF_four {a b c d : Nat} (ha : a < 256) (hb : b < 256) (hc : c < 256) (hd : d < 256) : beF (str [a, b, c, d]) 4 = ((a * 256 + b) * 256 + c) * 256 + d := by
  simp only [beF, bt_strL (l := [a, b, c, d]) (i := 0) (by simp) ha, bt_strL (l := [a, b, c, d]) (i := 1) (by simp) hb, bt_strL (l := [a, b, c, d]) (i := 2) (by simp) hc, bt_strL (l := [a, b, c, d]) (i := 3) (by simp) hd]
  simp
theorem numB_k {n k : Nat} (hk : k = 1 ∨ k = 2 ∨ k = 4) : (numB n k).size = k := by
  rcases hk with rfl | rfl | rfl <;> simp [numB, str_size]
theorem beF_numB {n k : Nat} (hk : k = 1 ∨ k = 2 ∨ k = 4) (hn : n < 2 ^ (8 * k)) : beF (numB n k) k = n := by
  rcases hk with rfl | rfl | rfl
  · show beF (str [n % 256]) 1 = n
    rw [beF_one (by omega)]
    have : n < 256 := hn
    omega
  · show beF (str [n / 256 % 256, n % 256]) 2 = n
    rw [beF_two (by omega) (by omega)]
    have : n < 65536 := hn
    omega
  · show beF (str [n / 16777216 % 256, n / 65536 % 256, n / 256 % 256, n % 256]) 4 = n
    rw [beF_four (by omega) (by omega) (by omega) (by omega)]
    have : n < 4294967296 := hn
    omega
theorem num_mid (x y : ByteArray) {n k : Nat} (hk : k = 1 ∨ k = 2 ∨ k = 4) (hn : n < 2 ^ (8 * k)) : numR (x ++ numB n k ++ y) x.size k = .ok (n, x.size + k) := by
  have h := raw_mid x (numB n k) y
  rw [numB_k hk] at h
  unfold numR
  rw [h]
  simp only [numB_k hk, beF_numB hk hn]
theorem num_cut (x m : ByteArray) {k : Nat} (h : m.size < k) : numR (x ++ m) x.size k = .error (1, (x ++ m).size) := by
  unfold numR
  rw [raw_cut x m h]
theorem var_mid (x y : ByteArray) {N : Nat} (hN : N < 268435456) : varR (x ++ str (enc N) ++ y) x.size = .ok (N, x.size + vsize N) := by
  unfold varR
  rw [app_assoc, ext_tail, take_enc hN]
theorem bin_mid (x s y : ByteArray) (hs : s.size ≤ 65535) : binR (x ++ (numB s.size 2 ++ s) ++ y) x.size = .ok (s, x.size + (numB s.size 2 ++ s).size) := by
  have h1 := num_mid x (s ++ y) (n := s.size) (k := 2) (by omega) (by omega)
  have h2 := raw_mid (x ++ numB s.size 2) s y
  have e1 : x ++ (numB s.size 2 ++ s) ++ y = x ++ numB s.size 2 ++ (s ++ y) := by simp only [app_assoc]
  have e2 : x ++ (numB s.size 2 ++ s) ++ y = x ++ numB s.size 2 ++ s ++ y := by simp only [app_assoc]
  unfold binR
  rw [e1, h1]
  simp only
  rw [← e1, e2]
  rw [size_app, numB_k (by omega)] at h2
  rw [h2]
  simp only [size_app, numB_k (show (2 : Nat) = 1 ∨ (2 : Nat) = 2 ∨ (2 : Nat) = 4 by omega), Nat.add_assoc]
theorem text_mid (x s y : ByteArray) {m : Nat} (hm : textF s = .inl m) : textR (x ++ (numB s.size 2 ++ s) ++ y) x.size = .ok (s, x.size + (numB s.size 2 ++ s).size) := by
  unfold textR
  rw [bin_mid x s y (textF_inl hm)]
  simp only [hm]
/-- what is written is read as it was -/
theorem rdA_mid (x y : ByteArray) {a : Act} {m : ByteArray} (hk : kindOk a.k) (h : actW a = .inl m) :
    rdA a.k (x ++ m ++ y) x.size = .ok ((if a.k < 6 then a.n else 0, if a.k < 6 then emp else a.s), x.size + m.size) := by
  obtain ⟨k, n, s⟩ := a
  simp only [actW] at h
  simp only [rdA]
  rcases hk with hk | hk | hk | hk | hk | hk
  all_goals
    simp only at hk
    subst hk
    simp only [Int.reduceEq, if_true, if_false, Int.reduceLT] at h ⊢
  · unfold numW at h
    split at h
    · cases h
    · rename_i hb
      injection h with h; subst h
      obtain ⟨N, rfl⟩ : ∃ N : Nat, n = N := ⟨n.toNat, by omega⟩
      rw [Int.toNat_natCast, num_mid x y (by omega) (by simp at hb ⊢; omega), numB_k (by omega)]
      rfl
  · unfold numW at h
    split at h
    · cases h
    · rename_i hb
      injection h with h; subst h
      obtain ⟨N, rfl⟩ : ∃ N : Nat, n = N := ⟨n.toNat, by omega⟩
      rw [Int.toNat_natCast, num_mid x y (by omega) (by simp at hb ⊢; omega), numB_k (by omega)]
      rfl
  · unfold numW at h
    split at h
    · cases h
    · rename_i hb
      injection h with h; subst h
      obtain ⟨N, rfl⟩ : ∃ N : Nat, n = N := ⟨n.toNat, by omega⟩
      rw [Int.toNat_natCast, num_mid x y (by omega) (by simp at hb ⊢; omega), numB_k (by omega)]
      rfl
  · unfold varW at h
    split at h
    · cases h
    · rename_i hb
      injection h with h; subst h
      obtain ⟨N, rfl⟩ : ∃ N : Nat, n = N := ⟨n.toNat, by omega⟩
      rw [Int.toNat_natCast, var_mid x y (by omega), str_size, enc_len]
      rfl
  · unfold textW at h
    split at h
    · cases h
    · rename_i m' hm
      rw [binW_inl (textF_inl hm)] at h
      injection h with h; subst h
      rw [text_mid x s y hm]
      rfl
  · unfold binW at h
    split at h
    · cases h
    · rename_i hb
      injection h with h; subst h
      rw [bin_mid x s y (by omega)]
      rfl
end Go.Proofs.YtccimdfmddomaaaDoor.AbsA
