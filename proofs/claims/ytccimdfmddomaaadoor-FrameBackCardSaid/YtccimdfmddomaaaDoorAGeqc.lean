/-
  A part of a law's proof.
-/
import Derived.Test.YtccimdfmddomaaaDoorAGeqb
namespace Go.Proofs.YtccimdfmddomaaaDoor.AbsA
open Go AbsYtccimdfmddomaaaDoor Abs
set_option maxRecDepth 100000
set_option maxHeartbeats 4000000
set_option linter.unusedSimpArgs false
set_option linter.unusedVariables false
theorem specRPut {σ : AHeap} {n : Int} {Q : Value → AHeap → Prop} (hbad : n < 0 ∨ 268435455 < n → Q (.tuple #[.string emp, .bool false]) σ) (hok : ¬ (n < 0 ∨ 268435455 < n) → Q (.tuple #[.string (str (enc n.toNat)), .bool true]) σ) : CallS E B 67 [.int .i64 n] σ Q :=
  of_W (P := fun r => if n < 0 ∨ 268435455 < n then r = .tuple #[.string emp, .bool false] else r = .tuple #[.string (str (enc n.toNat)), .bool true])
    (fun H hB => (spec67).mono fun r H' ⟨h1, h2⟩ => ⟨h1, h2⟩)
    fun r h => by
      split at h
      · rename_i h'; rw [h]; exact hbad h'
      · rename_i h'; rw [h]; exact hok h'
theorem specRTake {σ : AHeap} {s : ByteArray} {Q : Value → AHeap → Prop} (hs : s.size ≤ 10000) (hok : ∀ n k, takeF s 4 0 0 = .inl (n, k) → Q (.tuple #[.int .i64 (n : Int), .int .i64 (k : Int), .int .i64 0, .int .i64 0]) σ)
    (hbad : ∀ k q, takeF s 4 0 0 = .inr (k, q) → Q (.tuple #[.int .i64 0, .int .i64 0, .int .i64 ((k : Int) + 1), .int .i64 (q : Int)]) σ) : CallS E B 71 [.string s] σ Q :=
  of_W (P := fun r => r = match takeF s 4 0 0 with
    | .inl (n, k) => .tuple #[.int .i64 (n : Int), .int .i64 (k : Int), .int .i64 0, .int .i64 0]
    | .inr (kd, p) => .tuple #[.int .i64 0, .int .i64 0, .int .i64 ((kd : Int) + 1), .int .i64 (p : Int)])
    (fun H hB => (spec71 hs).mono fun r H' ⟨h1, h2⟩ => ⟨by rw [h1]; exact Ext.refl _, h2⟩)
    fun r h => by
      cases hm : takeF s 4 0 0 with
      | inl m => obtain ⟨n, k⟩ := m; rw [hm] at h; rw [h]; exact hok n k hm
      | inr p => obtain ⟨k, p⟩ := p; rw [hm] at h; rw [h]; exact hbad k p hm
end Go.Proofs.YtccimdfmddomaaaDoor.AbsA
