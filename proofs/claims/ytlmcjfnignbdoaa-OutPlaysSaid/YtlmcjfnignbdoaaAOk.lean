/-
  A part of a law's proof.
-/
import Derived.Test.YtlmcjfnignbdoaaAOj
namespace Go.Proofs.Ytlmcjfnignbdoaa.Abs
open Go AbsYtlmcjfnignbdoaa
set_option maxRecDepth 100000
set_option maxHeartbeats 2000000
set_option linter.unusedSimpArgs false
set_option linter.unusedVariables false
theorem typed_act {H : AHeap} {d : Nat} {xs : List Value} (h : Typed E H d 55 xs) : ∃ p : Act × Value, xs = acell p ∧ SliceAt H 4 p.2 p.1.m.n p.1.m.cs ∧ PropCells p.1.m.cs := by
  cases d with
  | zero => exact h.elim
  | succ d =>
    simp only [Typed, ty55] at h
    obtain ⟨hl, hf⟩ := h
    obtain ⟨j0, e0, t0⟩ := hf (0, 3, false) (by simp)
    obtain ⟨j1, e1, t1⟩ := hf (1, 31, false) (by simp)
    obtain ⟨j2, e2, t2⟩ := hf (10, 3, false) (by simp)
    obtain ⟨j3, e3, t3⟩ := hf (11, 3, false) (by simp)
    obtain ⟨j4, e4, t4⟩ := hf (12, 3, false) (by simp)
    obtain ⟨j5, e5, t5⟩ := hf (13, 3, false) (by simp)
    rw [ty3] at e0 e2 e3 e4 e5; rw [ty31] at e1
    cases e0; cases e1; cases e2; cases e3; cases e4; cases e5
    obtain ⟨n0, k0, _⟩ := typed_int t0
    obtain ⟨t, p, q, rt, sl, fr, un, sq, g, n, cs, k1, hs, hp⟩ := typed_msg t1
    obtain ⟨n2, k2, _⟩ := typed_int t2
    obtain ⟨n3, k3, _⟩ := typed_int t3
    obtain ⟨n4, k4, _⟩ := typed_int t4
    obtain ⟨n5, k5, _⟩ := typed_int t5
    have a0 := one_at k0; have a2 := one_at k2; have a3 := one_at k3; have a4 := one_at k4; have a5 := one_at k5
    match xs, hl with
    | [x0, x1, x2, x3, x4, x5, x6, x7, x8, x9, x10, x11, x12, x13], _ =>
      simp at a0 a2 a3 a4 a5
      simp [msgV] at k1
      obtain ⟨rfl, rfl, rfl, rfl, rfl, rfl, rfl, rfl, rfl⟩ := k1
      subst a0; subst a2; subst a3; subst a4; subst a5
      exact ⟨(⟨n0, ⟨t, p, q, rt, n, cs, fr, un, sq, g⟩, n2, n3, n4, n5⟩, _), rfl, hs, hp⟩
theorem acts_of {H : AHeap} {d : Nat} : ∀ (n : Nat) (cs : List Value), cs.length = n * 14 → (∀ k, k < n → Typed E H d 55 ((cs.drop (k * 14)).take 14)) → ∃ AS, cs = acells AS ∧ AS.length = n ∧ ActMem H AS
  | 0, cs, hl, _ => ⟨[], List.eq_nil_of_length_eq_zero (by omega), rfl, fun p hp => by simp at hp⟩
  | n + 1, cs, hl, h => by
    obtain ⟨p, k0, h1, h2⟩ := typed_act (h 0 (by omega))
    obtain ⟨AS, e1, e2, e3⟩ := acts_of n (cs.drop 14) (by simp; omega) (fun k hk => by
      have := h (k + 1) (by omega)
      rw [show (k + 1) * 14 = 14 + k * 14 by omega, ← List.drop_drop] at this
      exact this)
    have e : cs = (cs.take 14) ++ cs.drop 14 := (List.take_append_drop 14 cs).symm
    simp only [Nat.zero_mul, List.drop_zero] at k0
    rw [k0, e1] at e
    refine ⟨p :: AS, e, by simp [e2], fun q hq => ?_⟩
    rcases List.mem_cons.1 hq with rfl | hq
    · exact ⟨h1, h2⟩
    · exact e3 q hq
theorem typed_acts {H : AHeap} {d : Nat} {xs : List Value} (h : Typed E H d 43 xs) : ∃ v AS, xs = [v] ∧ ActsAt H v AS ∧ ActMem H AS := by
  cases d with
  | zero => exact h.elim
  | succ d =>
    simp only [Typed, ty43] at h
    rcases h with rfl | ⟨b, n, j, cs, e, rfl, hb, hg, hl, hk⟩
    · exact ⟨_, [], rfl, .inl ⟨rfl, rfl⟩, fun p hp => by simp at hp⟩
    · rw [ty55] at e
      cases e
      obtain ⟨AS, rfl, rfl, hm⟩ := acts_of n cs hl hk
      exact ⟨_, AS, rfl, .inr ⟨b, rfl, hg, hb⟩, hm⟩
theorem law9 (H : AHeap) (vs : List Value) (h : ArgsTyped E H 8 [43] vs) : CallW E 9 vs H fun r _ => r = .bool true := by
  match vs, h with
  | [v0], ⟨⟨x0, i0, e0, t0, r0⟩, _⟩ =>
    rw [ty43] at e0; cases e0
    obtain ⟨v, AS, rfl, hs, hm⟩ := typed_acts t0
    subst r0
    exact spec9 hs hm
end Go.Proofs.Ytlmcjfnignbdoaa.Abs
