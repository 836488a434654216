/-
  A part of a law's proof.
-/
import Derived.Test.YtccimdfmddomaaaDoorAErqb
import Derived.Test.YtccimdfmddomaaaDoorAMe
namespace Go.Proofs.YtccimdfmddomaaaDoor.AbsA
open Go AbsYtccimdfmddomaaaDoor Abs
set_option maxRecDepth 100000
set_option maxHeartbeats 4000000
set_option linter.unusedSimpArgs false
set_option linter.unusedVariables false
theorem dpB : E.dp 70 = false := rfl
def emp : ByteArray := ⟨#[]⟩
theorem B_size : B.size = nb := by kernel_rfl
theorem base_live {b : Nat} (h : b < nb) : B.get b ≠ .dead := by
  have hall : ((List.range nb).all fun b => !deadO (B.get b)) = true := by kernel_rfl
  rw [List.all_eq_true] at hall
  have h1 := hall b (List.mem_range.2 h)
  exact deadO_iff.1 (by simpa using h1)
theorem base_out {b : Nat} (h : B.get b ≠ .dead) : b < nb := by
  rcases Nat.lt_or_ge b nb with h1 | h1
  · exact h1
  · exfalso; apply h
    have hl : (baseList ng 230 S handle).length = nb := by kernel_rfl
    show (heapOf (baseList ng 230 S handle)).get b = .dead
    rw [heapOf_get]
    simp only [List.getD, List.getElem?_eq_none (show (baseList ng 230 S handle).length ≤ b by omega), Option.getD_none]
theorem base_ext {σ H : AHeap} (h : Holds B σ H) : Ext B H := by
  refine ⟨?_, fun b hb => (h.base b (base_live (by rw [← B_size]; exact hb))).1⟩
  rw [B_size]
  have h0 : 0 < nb := by decide
  have := (h.base (nb - 1) (base_live (by omega))).2
  omega
theorem ext_holds {H : AHeap} (h : Ext B H) : Holds B .empty H :=
  ⟨fun b hb => ⟨h.get b (by rw [B_size]; exact base_out hb), Nat.lt_of_lt_of_le (by rw [B_size]; exact base_out hb) h.size⟩, fun b hb => by
    exfalso; apply hb; simp [AHeap.get, AHeap.empty, Tr.get, Tr.getF]⟩
/-- what is shown of the whole heap serves for a part of it -/
theorem of_W {f : Nat} {args : List Value} {P : Value → Prop} (h : ∀ H, Ext B H → CallW E f args H fun r H' => Ext H H' ∧ P r) {σ : AHeap} {Q : Value → AHeap → Prop} (hq : ∀ r, P r → Q r σ) : CallS E B f args σ Q :=
  fun H hH => (h H (base_ext hH)).mono fun r H' ⟨h1, h2⟩ => ⟨σ, hH.ext h1, hq r h2⟩
theorem glob {H : AHeap} (hB : Ext B H) : H.get 4 = .cells [sent 3] false 1 ∧ H.get 0 = .cells [sent 4] false 1 ∧ H.get 3 = .cells [sent 1] false 1 ∧ H.get 2 = .cells [sent 2] false 1 ∧ H.get 5 = .cells [sent 5] false 1 ∧ H.get 6 = .cells [sent 6] false 1 ∧ H.get 1 = .cells [sent 7] false 1 ∧ isHandle ec (H.get 7) = true := by
  have h := fun b (hb : b < nb) => hB.get b (by rw [B_size]; exact hb)
  have e : nb = nb := rfl
  rw [h 4 (by decide), h 0 (by decide), h 3 (by decide), h 2 (by decide), h 5 (by decide), h 6 (by decide), h 1 (by decide), h 7 (by decide)]
  exact ⟨by kernel_rfl, by kernel_rfl, by kernel_rfl, by kernel_rfl, by kernel_rfl, by kernel_rfl, by kernel_rfl, by kernel_rfl⟩
def Fault (H : AHeap) (e : Value) (reason at' : Int) (k : Nat) : Prop := e = fv reason at' (sent (k + 1))
theorem Fault.ext {H H' : AHeap} {e : Value} {r a : Int} {k : Nat} (h : Fault H e r a k) (x : Ext H H') : Fault H' e r a k := h
theorem buildF {a b : Int} {u : TypeId} {v : Value} : abuild E 168 [(0, .int .i64 a), (1, .int .i64 b), (2, .iface u v)] = some (.agg #[.int .i64 a, .int .i64 b, .iface u v]) := by
  simp [abuild, azero, tyB, fieldPlaces, lfill, splice, vcells, ZV.val]
theorem frz_sent' (n : Nat) : frz E.ng E.nb (sent n) = true := by
  by_cases h : 1 ≤ n ∧ n ≤ 7
  · exact frz_sent h
  · rcases (by omega : n = 0 ∨ 8 ≤ n) with rfl | h8
    · exact frz_sent (n := 1) ⟨by omega, by omega⟩
    · have : sblk n = 0 := by unfold sblk; simp only [List.getD]; rw [List.getElem?_eq_none (by simp only [List.length_cons, List.length_nil]; omega)]; rfl
      have h3 : 0 < E.ng := by decide
      rw [sent, frz_iface, frz_ptr, this]
      simp [h3]
theorem spec56 {a b : Int} {k : Nat} {H : AHeap} : CallW E 56 [.int .i64 a, .int .i64 b, sent (k + 1)] H fun r H' => Ext H H' ∧ Fault H' r a b k := by
  have hx := frz_sent' (k + 1)
  unfold sent at hx ⊢
  rw [frz_iface] at hx
  refine wcall56 (by simp) ?_
  simp only [strip, bodyOf, Tryd.f56, getD_body, keepN, bareOp_mk, lessOp_mk, lapp_cons, lapp_nil, List.map_cons, List.map_nil, array_toList, ↓reduceIte, Nat.reduceEqDiff, Bool.false_eq_true]
  simp (disch := first | assumption | simp) only [↓wbD, wbU, ↓aop, ↓reduceIte, Nat.reduceEqDiff, Nat.reduceLT, reduceCtorEq, goInt, pairs, iface_eql ty28 rfl, buildF, vcells, ty166, Edp, dpv, frzL_cons, frzL_nil, frz_int, frz_iface, hx, Bool.and_self]
  exact ⟨Ext.refl _, rfl⟩
end Go.Proofs.YtccimdfmddomaaaDoor.AbsA
