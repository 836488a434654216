/-
  A part of a law's proof.
-/
import Derived.Test.YtlmcjfnignbdoaaATg
namespace Go.Proofs.Ytlmcjfnignbdoaa.Abs
open Go AbsYtlmcjfnignbdoaa
set_option maxRecDepth 100000
set_option linter.unusedSimpArgs false
theorem typed_int {H : AHeap} {d : Nat} {xs : List Value} (h : Typed E H d 3 xs) : ∃ n, xs = [.int .i64 n] ∧ (Lit.int .i64 n).wf = true := by
  cases d with
  | zero => exact h.elim
  | succ d => simpa only [Typed, ty3] using h
theorem typed_str {H : AHeap} {d : Nat} {xs : List Value} (h : Typed E H d 9 xs) : ∃ s : ByteArray, xs = [.string s] ∧ s.size ≤ maxLen := by
  cases d with
  | zero => exact h.elim
  | succ d => simpa only [Typed, ty9] using h
theorem typed_bool {H : AHeap} {d : Nat} {xs : List Value} (h : Typed E H d 4 xs) : ∃ b, xs = [.bool b] := by
  cases d with
  | zero => exact h.elim
  | succ d => simpa only [Typed, ty4] using h
/-- parts of one cell each -/
theorem one_at {xs : List Value} {o : Nat} {v : Value} (h : (xs.drop o).take 1 = [v]) : xs[o]? = some v := by
  have := congrArg (fun l => l[0]?) h
  simpa [List.getElem?_take, List.getElem?_drop] using this
theorem typed_prop {H : AHeap} {d : Nat} {xs : List Value} (h : Typed E H d 84 xs) : ∃ p q s u, xs = [.int .i64 p, .int .i64 q, .string s, .string u] := by
  cases d with
  | zero => exact h.elim
  | succ d =>
    simp only [Typed, ty84] at h
    obtain ⟨hl, hf⟩ := h
    obtain ⟨j0, e0, t0⟩ := hf (0, 3, false) (by simp)
    obtain ⟨j1, e1, t1⟩ := hf (1, 3, false) (by simp)
    obtain ⟨j2, e2, t2⟩ := hf (2, 9, false) (by simp)
    obtain ⟨j3, e3, t3⟩ := hf (3, 9, false) (by simp)
    rw [ty3] at e0 e1; rw [ty9] at e2 e3
    cases e0; cases e1; cases e2; cases e3
    obtain ⟨p, k0, _⟩ := typed_int t0
    obtain ⟨q, k1, _⟩ := typed_int t1
    obtain ⟨s, k2, _⟩ := typed_str t2
    obtain ⟨u, k3, _⟩ := typed_str t3
    have a0 := one_at k0; have a1 := one_at k1; have a2 := one_at k2; have a3 := one_at k3
    match xs, hl with
    | [x0, x1, x2, x3], _ =>
      simp at a0 a1 a2 a3
      subst a0; subst a1; subst a2; subst a3
      exact ⟨p, q, s, u, rfl⟩
theorem propCells_of {H : AHeap} {d : Nat} : ∀ (n : Nat) (cs : List Value), cs.length = n * 4 → (∀ k, k < n → Typed E H d 84 ((cs.drop (k * 4)).take 4)) → PropCells cs
  | 0, cs, hl, _ => by
    obtain rfl : cs = [] := List.eq_nil_of_length_eq_zero (by omega)
    trivial
  | n + 1, cs, hl, h => by
    obtain ⟨p, q, s, u, k0⟩ := typed_prop (h 0 (by omega))
    have ih := propCells_of n (cs.drop 4) (by simp; omega) (fun k hk => by
      have := h (k + 1) (by omega)
      rw [show (k + 1) * 4 = 4 + k * 4 by omega, ← List.drop_drop] at this
      exact this)
    have e : cs = (cs.take 4) ++ cs.drop 4 := (List.take_append_drop 4 cs).symm
    simp only [Nat.zero_mul, List.drop_zero] at k0
    rw [k0] at e
    rw [e]
    exact ih
theorem typed_props {H : AHeap} {d : Nat} {xs : List Value} (h : Typed E H d 29 xs) : ∃ v n cs, xs = [v] ∧ SliceAt H 4 v n cs ∧ PropCells cs := by
  cases d with
  | zero => exact h.elim
  | succ d =>
    simp only [Typed, ty29] at h
    rcases h with rfl | ⟨b, n, j, cs, e, rfl, hb, hg, hl, hk⟩
    · exact ⟨_, 0, [], rfl, nilAt _ _, trivial⟩
    · rw [ty84] at e
      cases e
      refine ⟨_, n, cs, rfl, ⟨hl, .inr ⟨b, 0, n, none, cs, false, rfl, hg, by simp only [Nat.zero_add]; exact Nat.le_of_eq hl.symm, ?_, hb⟩⟩, propCells_of n cs hl hk⟩
      simp only [List.drop_zero]
      exact (List.take_of_length_le (Nat.le_of_eq hl)).symm
theorem typed_msg {H : AHeap} {d : Nat} {xs : List Value} (h : Typed E H d 31 xs) : ∃ t p q rt sl fr un sq g n cs, xs = msgV t p q rt sl fr un sq g ∧ SliceAt H 4 sl n cs ∧ PropCells cs := by
  cases d with
  | zero => exact h.elim
  | succ d =>
    simp only [Typed, ty31] at h
    obtain ⟨hl, hf⟩ := h
    obtain ⟨j0, e0, t0⟩ := hf (0, 9, false) (by simp)
    obtain ⟨j1, e1, t1⟩ := hf (1, 9, false) (by simp)
    obtain ⟨j2, e2, t2⟩ := hf (2, 3, false) (by simp)
    obtain ⟨j3, e3, t3⟩ := hf (3, 4, false) (by simp)
    obtain ⟨j4, e4, t4⟩ := hf (4, 29, false) (by simp)
    obtain ⟨j5, e5, t5⟩ := hf (5, 9, false) (by simp)
    obtain ⟨j6, e6, t6⟩ := hf (6, 3, false) (by simp)
    obtain ⟨j7, e7, t7⟩ := hf (7, 3, false) (by simp)
    obtain ⟨j8, e8, t8⟩ := hf (8, 9, false) (by simp)
    rw [ty9] at e0 e1 e5 e8; rw [ty3] at e2 e6 e7; rw [ty4] at e3; rw [ty29] at e4
    cases e0; cases e1; cases e2; cases e3; cases e4; cases e5; cases e6; cases e7; cases e8
    obtain ⟨s0, k0, _⟩ := typed_str t0
    obtain ⟨s1, k1, _⟩ := typed_str t1
    obtain ⟨n2, k2, _⟩ := typed_int t2
    obtain ⟨b3, k3⟩ := typed_bool t3
    obtain ⟨sl, n, cs, k4, hs, hp⟩ := typed_props t4
    obtain ⟨s5, k5, _⟩ := typed_str t5
    obtain ⟨n6, k6, _⟩ := typed_int t6
    obtain ⟨n7, k7, _⟩ := typed_int t7
    obtain ⟨s8, k8, _⟩ := typed_str t8
    have a0 := one_at k0; have a1 := one_at k1; have a2 := one_at k2; have a3 := one_at k3; have a4 := one_at k4
    have a5 := one_at k5; have a6 := one_at k6; have a7 := one_at k7; have a8 := one_at k8
    match xs, hl with
    | [x0, x1, x2, x3, x4, x5, x6, x7, x8], _ =>
      simp at a0 a1 a2 a3 a4 a5 a6 a7 a8
      subst a0; subst a1; subst a2; subst a3; subst a4; subst a5; subst a6; subst a7; subst a8
      exact ⟨s0, s1, n2, b3, _, s5, n6, n7, s8, n, cs, rfl, hs, hp⟩
theorem typed_two {H : AHeap} {d : Nat} {xs : List Value} (h : Typed E H d 32 xs) : ∃ a b, xs = [.int .i64 a, .int .i64 b] := by
  cases d with
  | zero => exact h.elim
  | succ d =>
    simp only [Typed, ty32] at h
    obtain ⟨hl, j, e, hf⟩ := h
    rw [ty3] at e; cases e
    obtain ⟨a, k0, _⟩ := typed_int (hf 0 (by omega))
    obtain ⟨b, k1, _⟩ := typed_int (hf 1 (by omega))
    have a0 := one_at k0; have a1 := one_at k1
    match xs, hl with
    | [x0, x1], _ =>
      simp at a0 a1
      subst a0; subst a1
      exact ⟨a, b, rfl⟩
theorem law7 (H : AHeap) (vs : List Value) (h : ArgsTyped E H 8 [31, 32, 4] vs) : CallW E 7 vs H fun r _ => r = .bool true := by
  match vs, h with
  | [v0, v1, v2], ⟨⟨x0, i0, e0, t0, r0⟩, ⟨x1, i1, e1, t1, r1⟩, ⟨x2, i2, e2, t2, r2⟩, _⟩ =>
    rw [ty31] at e0; cases e0
    rw [ty32] at e1; cases e1
    rw [ty4] at e2; cases e2
    obtain ⟨t, p, q, rt, sl, fr, un, sq, g, n, cs, rfl, hs, hp⟩ := typed_msg t0
    obtain ⟨a, b, rfl⟩ := typed_two t1
    obtain ⟨c, rfl⟩ := typed_bool t2
    subst r0; subst r1; subst r2
    exact spec7 hs hp
end Go.Proofs.Ytlmcjfnignbdoaa.Abs
