/-
  A part of a law's proof.
-/
import Derived.Test.YtccimdfmddomaaaDoorAVaqf
namespace Go.Proofs.YtccimdfmddomaaaDoor.AbsA
open Go AbsYtccimdfmddomaaaDoor Abs
set_option maxHeartbeats 4000000
set_option linter.unusedSimpArgs false
set_option linter.unusedVariables false

set_option maxRecDepth 100000
set_option maxHeartbeats 2000000
set_option linter.unusedSimpArgs false
set_option linter.unusedVariables false
theorem bt_app {l : List Nat} {s : ByteArray} {i : Nat} (h : i < l.length) (hl : l[i] < 256) : bt (str l ++ s) i = l[i] := by
  have h1 : i < (str l ++ s).size := by rw [size_app, str_size]; omega
  have h2 : (str l ++ s)[i]? = some (str l ++ s)[i] := getElem?_pos _ i h1
  have h3 : (str l ++ s)[i] = (str l)[i]'(by rw [str_size]; exact h) := ByteArray.getElem_append_left (by rw [str_size]; exact h)
  have h4 : (str l)[i]'(by rw [str_size]; exact h) = UInt8.ofNat l[i] := by
    show (str l).data[i]'_ = _
    simp [str]
  unfold bt
  rw [h2, h3, h4]
  simp only
  rw [UInt8.toNat_ofNat']
  omega
theorem vsize_cases (N : Nat) (hN : N < 268435456) : (N < 128 ∧ vsize N = 1) ∨ (128 ≤ N ∧ N < 16384 ∧ vsize N = 2) ∨ (16384 ≤ N ∧ N < 2097152 ∧ vsize N = 3) ∨ (2097152 ≤ N ∧ vsize N = 4) := by
  simp only [vsize]
  rcases (by omega : N < 128 ∨ (128 ≤ N ∧ N < 16384) ∨ (16384 ≤ N ∧ N < 2097152) ∨ 2097152 ≤ N) with h | h | h | h
  · left; exact ⟨h, by rw [if_pos h]⟩
  · right; left; exact ⟨h.1, h.2, by rw [if_neg (by omega), if_pos h.2]⟩
  · right; right; left; exact ⟨h.1, h.2, by rw [if_neg (by omega), if_neg (by omega), if_pos h.2]⟩
  · right; right; right; exact ⟨h, by rw [if_neg (by omega), if_neg (by omega), if_neg (by omega)]⟩
theorem bt_enc {N : Nat} {s : ByteArray} {i : Nat} (h : i < vsize N) : bt (str (enc N) ++ s) i = if i + 1 < vsize N then digit N i + 128 else digit N i := by
  have hl : i < (enc N).length := by rw [enc_len]; exact h
  have he : (enc N)[i] = if i + 1 < vsize N then digit N i + 128 else digit N i := by simp [enc]
  rw [bt_app hl, he]
  rw [he]
  have := digit_lt N i
  split <;> omega
theorem take_enc {N : Nat} (hN : N < 268435456) (s : ByteArray) : takeF (str (enc N) ++ s) 4 0 0 = .inl (N, vsize N) := by
  have hsz : (str (enc N) ++ s).size = vsize N + s.size := by rw [size_app, str_size, enc_len]
  have b := fun i (h : i < vsize N) => bt_enc (N := N) (s := s) h
  generalize str (enc N) ++ s = S at hsz b ⊢
  have step : ∀ k i n, i + 1 < vsize N → takeF S (k + 1) i n = takeF S k (i + 1) (n + digit N i * 128 ^ i) := by
    intro k i n h
    have hb := b i (by omega)
    rw [if_pos h] at hb
    have hd := digit_lt N i
    simp only [takeF]
    rw [if_neg (by omega), hb, if_neg (by omega)]
    congr 2
    rw [show (digit N i + 128) % 128 = digit N i by omega]
  have last : ∀ k i n, i + 1 = vsize N → (digit N i = 0 → i = 0) → takeF S (k + 1) i n = .inl (n + digit N i * 128 ^ i, i + 1) := by
    intro k i n h h0
    have hb := b i (by omega)
    rw [if_neg (by omega)] at hb
    have hd := digit_lt N i
    simp only [takeF]
    rw [if_neg (by omega), hb, if_pos (by omega), if_neg (by intro hh; have := h0 hh.1; omega), Nat.mod_eq_of_lt hd]
  have d0 : digit N 0 = N % 128 := by simp [digit]
  have d1 : digit N 1 = N / 128 % 128 := by simp [digit]
  have d2 : digit N 2 = N / 16384 % 128 := by simp [digit]
  have d3 : digit N 3 = N / 2097152 % 128 := by simp [digit]
  rcases vsize_cases N hN with ⟨h1, h2⟩ | ⟨h0, h1, h2⟩ | ⟨h0, h1, h2⟩ | ⟨h1, h2⟩
  · rw [last 3 0 0 (by omega) (fun _ => rfl), h2, d0]
    congr 2; omega
  · rw [step 3 0 0 (by omega), last 2 1 _ (by omega) (by rw [d1]; omega), h2, d0, d1]
    congr 2; omega
  · rw [step 3 0 0 (by omega), step 2 1 _ (by omega), last 1 2 _ (by omega) (by rw [d2]; omega), h2, d0, d1, d2]
    congr 2; omega
  · rw [step 3 0 0 (by omega), step 2 1 _ (by omega), step 1 2 _ (by omega), last 0 3 _ (by omega) (by rw [d3]; omega), h2, d0, d1, d2, d3]
    congr 2; omega
theorem prefix_eq {N M : Nat} (hN : N < 268435456) (hM : M < 268435456) : (N = M) ↔ (vsize N ≤ vsize M ∧ (str (enc M)).extract 0 (vsize N) = str (enc N)) := by
  have sM : (str (enc M)).size = vsize M := by rw [str_size, enc_len]
  constructor
  · rintro rfl
    exact ⟨Nat.le_refl _, by rw [← sM]; exact extract_all _⟩
  · rintro ⟨h1, h2⟩
    have a1 := take_enc hM ⟨#[]⟩
    have e1 : str (enc M) ++ ⟨#[]⟩ = str (enc M) := by
      apply ByteArray.ext; simp [ByteArray.data_append]
    rw [e1] at a1
    have a2 := take_enc hN ((str (enc M)).extract (vsize N) (str (enc M)).size)
    rw [← h2, extract_split _ (by omega), a1] at a2
    injection a2 with a2; injection a2 with a2 _
    exact a2.symm
end Go.Proofs.YtccimdfmddomaaaDoor.AbsA
