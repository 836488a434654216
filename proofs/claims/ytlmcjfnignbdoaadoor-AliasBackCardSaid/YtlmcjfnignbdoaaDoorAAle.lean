/-
  A part of a law's proof.
-/
import Derived.Test.YtlmcjfnignbdoaaDoorAAld
namespace Go.Proofs.YtlmcjfnignbdoaaDoor.AbsA
open Go AbsYtlmcjfnignbdoaaDoor Abs
set_option maxRecDepth 100000
set_option linter.unusedSimpArgs false
set_option linter.unusedVariables false
theorem typed_int {H : AHeap} {d : Nat} {xs : List Value} (h : Typed E H d 3 xs) : ∃ n, xs = [.int .i64 n] ∧ (Lit.int .i64 n).wf = true := by
  cases d with
  | zero => exact h.elim
  | succ d => simpa only [Typed, ty3] using h
theorem typed_str {H : AHeap} {d : Nat} {xs : List Value} (h : Typed E H d 9 xs) : ∃ s : ByteArray, xs = [.string s] ∧ s.size ≤ maxLen := by
  cases d with
  | zero => exact h.elim
  | succ d => simpa only [Typed, ty9] using h
theorem strs_of {H : AHeap} {d : Nat} : ∀ (n : Nat) (cs : List Value), cs.length = n → (∀ k, k < n → Typed E H d 9 ((cs.drop (k * 1)).take 1)) → ∃ L, cs = strs L ∧ L.length = n
  | 0, cs, hl, _ => ⟨[], List.eq_nil_of_length_eq_zero hl, rfl⟩
  | n + 1, [], hl, h => by simp at hl
  | n + 1, c :: cs, hl, h => by
    obtain ⟨s, k0, _⟩ := typed_str (h 0 (by omega))
    obtain ⟨L, h1, h2⟩ := strs_of n cs (by simpa using hl) (fun k hk => by
      have := h (k + 1) (by omega)
      simpa using this)
    simp at k0
    exact ⟨s :: L, by rw [h1, k0]; rfl, by simp [h2]⟩
theorem typed_strs {H : AHeap} {d : Nat} {xs : List Value} (h : Typed E H d 22 xs) : ∃ v L, xs = [v] ∧ SliceAt H 1 v L.length (strs L) := by
  cases d with
  | zero => exact h.elim
  | succ d =>
    simp only [Typed, ty22] at h
    rcases h with rfl | ⟨b, n, j, cs, e, rfl, hb, hg, hl, hk⟩
    · exact ⟨_, [], rfl, SliceAt.nil⟩
    · rw [ty9] at e
      cases e
      obtain ⟨L, rfl, rfl⟩ := strs_of n cs (by simpa using hl) hk
      exact ⟨_, L, rfl, ⟨by simpa using hl, .inr ⟨b, 0, L.length, none, strs L, false, rfl, hg, by simp [strs_len], by simp [List.take_of_length_le (Nat.le_of_eq (strs_len L))], hb⟩⟩⟩
theorem not_bool {b : Bool} : aun .not (.bool b) = some (.bool (!b)) := rfl
theorem build29 {m : Int} : abuild E 29 [(0, .int .i64 m)] = some (.agg #[.int .i64 m, .slice none 0 0]) := by kernel_rfl
theorem build31e : abuild E 31 [] = some (.agg #[.int .i64 0, .slice none 0 0]) := by kernel_rfl
theorem build32 {H : AHeap} {p q : Value} (hp : vcells p = [p]) (hq : vcells q = [q]) : abuildSlice E H 32 2 [(0, p), (1, q)] = some (.slice (some ⟨H.size, 0, some 1⟩) 2 2, H.alloc (.cells [p, q] true 1)) := by
  simp [abuildSlice, ty32, ty25, azero, lfill, reps, splice, hp, hq, ZV.val]
theorem nameF_mem {m : Int} {L : List ByteArray} {t : ByteArray} (h : ∀ x ∈ L, x ≠ emp) : ∀ x ∈ (nameF m L t).2.2, x ≠ emp := by
  intro x
  unfold nameF
  split
  · exact h x
  · rename_i ht
    split
    · exact h x
    · split
      · exact h x
      · intro hx
        simp at hx
        rcases hx with hx | rfl
        · exact h x hx
        · exact ht
theorem nameF_len {m : Int} {L : List ByteArray} {t : ByteArray} : (nameF m L t).2.2.length ≤ L.length + 1 := by
  unfold nameF
  split
  · simp
  · split
    · simp
    · split <;> simp
theorem nameF_none {t : ByteArray} : nameF 0 [] t = (t, 0, []) := by
  unfold nameF
  split
  · rfl
  · simp [pos]
end Go.Proofs.YtlmcjfnignbdoaaDoor.AbsA
