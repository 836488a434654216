/-
  A part of a law's proof.
-/
import Derived.Test.YtlmcjfnignbdoaaAPk
namespace Go.Proofs.Ytlmcjfnignbdoaa.Abs
open Go AbsYtlmcjfnignbdoaa
set_option maxRecDepth 100000
set_option maxHeartbeats 8000000
set_option linter.unusedSimpArgs false
set_option linter.unusedVariables false
/-- the two sides between two acts -/
structure Play (H0 : AHeap) (e bo bp bm ro rp : Nat) (i : Nat) (H : AHeap) : Prop where
  ext : Ext H0 H
  bk : ∃ D R last F F', OutI H D bo bp bm last F ∧ OutR H R ro rp last F' (ids F') ∧ F.map (·.1) = F'.map (·.1) ∧ (∀ b, D b → H0.size ≤ b ∧ ¬ R b) ∧ (∀ b, R b → H0.size ≤ b) ∧ Good (F.map (·.1)) ∧ F.length ≤ i ∧ (∀ b, b = e ∨ b = e + 1 → ¬ D b ∧ ¬ R b)
  e0 : H.get e = .cells [.pointer none, .slice none 0 0] true 0
  e1 : H.get (e + 1) = .cells [.pointer none, ptr e] true 1
  lt : e + 1 < H.size
  le : H0.size ≤ e
theorem Play.keep {H0 H H' : AHeap} {e bo bp bm ro rp i : Nat} (h : Play H0 e bo bp bm ro rp i H) (x : Ext H H') : Play H0 e bo bp bm ro rp i H' := by
  obtain ⟨k1, ⟨D, R, last, F, F', o, r, a1, a2, a3, a4, a5, a6⟩, k3, k4, k5, k6⟩ := h
  exact ⟨k1.trans x, ⟨D, R, last, F, F', o.keep (S := fun _ => False) x.did fun _ _ hf => hf, r.keep (S := fun _ => False) x.did fun _ _ hf => hf, a1, a2, a3, a4, a5, a6⟩, by rw [x.get _ (by omega)]; exact k3, by rw [x.get _ k5]; exact k4, Nat.lt_of_lt_of_le k5 x.size, k6⟩
theorem Play.more {H0 H : AHeap} {e bo bp bm ro rp i j : Nat} (h : Play H0 e bo bp bm ro rp i H) (hj : i ≤ j) : Play H0 e bo bp bm ro rp j H := by
  obtain ⟨k1, ⟨D, R, last, F, F', o, r, a1, a2, a3, a4, a5, a6⟩, k3, k4, k5, k6⟩ := h
  exact ⟨k1, ⟨D, R, last, F, F', o, r, a1, a2, a3, a4, by omega, a6⟩, k3, k4, k5, k6⟩
theorem Play.nob {H0 H : AHeap} {e bo bp bm ro rp i : Nat} (h : Play H0 e bo bp bm ro rp i H) : Nob H (ptr e) := .inr ⟨e, rfl, h.e0, by have := h.lt; omega⟩
/-- both sides have done something -/
theorem Play.step {H0 H H1 H2 : AHeap} {e bo bp bm ro rp i j : Nat} {D R : Nat → Prop} {l2 : Int} {F F' F2 F2' : FS} (hx : Ext H0 H) (e0 : H.get e = .cells [.pointer none, .slice none 0 0] true 0) (e1 : H.get (e + 1) = .cells [.pointer none, ptr e] true 1) (lt : e + 1 < H.size) (le : H0.size ≤ e)
    (hD : ∀ b, D b → H0.size ≤ b ∧ ¬ R b) (hR : ∀ b, R b → H0.size ≤ b ∧ b < H.size) (hE : ∀ b, b = e ∨ b = e + 1 → ¬ D b ∧ ¬ R b)
    (o1 : OutI H1 (Grow D H H1) bo bp bm l2 F2) (d1 : Did D H H1) (o2 : OutR H2 (Grow R H1 H2) ro rp l2 F2' (ids F2')) (d2 : Did R H1 H2) (he : F2.map (·.1) = F2'.map (·.1)) (hg : Good (F2.map (·.1))) (hl : F2.length ≤ j) : Play H0 e bo bp bm ro rp j H2 := by
  have s1 := d1.size
  have s2 := d2.size
  have x1 : Ext H0 H1 := hx.of_but d1.but fun b hb => (hD b hb).1
  have x2 : Ext H0 H2 := x1.of_but d2.but fun b hb => (hR b hb).1
  have sx := hx.size
  refine ⟨x2, ⟨Grow D H H1, Grow R H1 H2, l2, F2, F2', o1.keep d2 fun b hb hr => ?_, o2, he, fun b hb => ?_, fun b hb => ?_, hg, hl, fun b hb => ⟨?_, ?_⟩⟩, ?_, ?_, by omega, le⟩
  · rcases hb with hb | hb
    · exact (hD b hb).2 hr
    · have := (hR b hr).2; omega
  · rcases hb with hb | hb
    · refine ⟨(hD b hb).1, ?_⟩
      rintro (hr | hr)
      · exact (hD b hb).2 hr
      · have hlt := o1.lt b (.inl hb); omega
    · refine ⟨by omega, ?_⟩
      rintro (hr | hr)
      · have := (hR b hr).2; omega
      · omega
  · rcases hb with hb | hb
    · exact (hR b hb).1
    · omega
  · rintro (h | h)
    · exact (hE b hb).1 h
    · rcases hb with rfl | rfl <;> omega
  · rintro (h | h)
    · exact (hE b hb).2 h
    · rcases hb with rfl | rfl <;> omega
  · rw [d2.but.get _ (by omega) (hE e (.inl rfl)).2, d1.but.get _ (by omega) (hE e (.inl rfl)).1]; exact e0
  · rw [d2.but.get _ (by omega) (hE (e + 1) (.inr rfl)).2, d1.but.get _ (by omega) (hE (e + 1) (.inr rfl)).1]; exact e1
theorem build52e : abuild E 52 [] = some (.agg #[.pointer none, .slice none 0 0]) := by kernel_rfl
theorem bs53 {H : AHeap} {e : Nat} : abuildSlice E H 53 2 [(0, .pointer none), (1, ptr e)] = some (.slice (some ⟨H.size, 0, some 1⟩) 2 2, H.alloc (.cells [.pointer none, ptr e] true 1)) := by
  simp [abuildSlice, ty53, ty45, azero, lfill, reps, splice, ZV.val, vcells]
theorem spec8_start {H0 Ha H1 H2 : AHeap} {bo bp bm ro rp : Nat} (xa : Ext H0 Ha) (x0 : Ext Ha H1) (o : OutI H1 (fun b => Ha.size ≤ b ∧ b < H1.size) bo bp bm 0 []) (r : OutR H2 (fun b => H1.size ≤ b ∧ b < H2.size) ro rp 0 [] []) (x : Ext H1 H2) :
    Play H0 H2.size bo bp bm ro rp 0 ((H2.alloc (.cells [.pointer none, .slice none 0 0] true 0)).alloc (.cells [.pointer none, ptr H2.size] true 1)) := by
  have y : Ext H2 ((H2.alloc (.cells [.pointer none, .slice none 0 0] true 0)).alloc (.cells [.pointer none, ptr H2.size] true 1)) := (Ext.alloc _ _).trans (Ext.alloc _ _)
  have s0 := x0.size
  have s1 := x.size
  have sa := xa.size
  refine ⟨((xa.trans x0).trans x).trans y, ⟨_, _, 0, [], [], o.keep (S := fun _ => False) (x.trans y).did fun _ _ hf => hf, r.keep (S := fun _ => False) y.did fun _ _ hf => hf, rfl, fun b hb => ⟨by omega, fun hr => by omega⟩, fun b hb => by omega, Good.nil, by simp, fun b hb => ⟨fun hd => by omega, fun hr => by omega⟩⟩, ?_, ?_, ?_, by omega⟩
  · rw [AHeap.get_alloc_ne _ _ (by rw [AHeap.size_alloc]; omega)]; exact AHeap.get_alloc_same _ _
  · exact AHeap.get_alloc_same _ _
  · rw [AHeap.size_alloc, AHeap.size_alloc]; omega
end Go.Proofs.Ytlmcjfnignbdoaa.Abs
