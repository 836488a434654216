/-
  A part of a law's proof.
-/
import Derived.Test.YtccimdfmddomaaaDoorAEnvD
namespace Go.Proofs.YtccimdfmddomaaaDoor.AbsA
open Go AbsYtccimdfmddomaaaDoor Abs
set_option maxRecDepth 100000
set_option maxHeartbeats 4000000
set_option linter.unusedSimpArgs false
set_option linter.unusedVariables false
/-- an error of the program's make -/
abbrev fv (r a : Int) (x : Value) : Value := .iface 166 (dptr [.int .i64 r, .int .i64 a, x])
/-- the sentinel of a number -/
def sent (n : Nat) : Value := .iface 230 (.pointer (some ⟨sblk n, 0, none⟩))
theorem sblk_of {n : Nat} (h : 1 ≤ n ∧ n ≤ 7) : ∃ cs, B.get (sblk n) = .cells cs false 0 := by
  have hall : ((List.range 8).all fun n => Nat.beq n 0 || match B.get (sblk n) with | .cells _ false 0 => true | _ => false) = true := by kernel_rfl
  rw [List.all_eq_true] at hall
  have := hall n (List.mem_range.2 (by omega))
  have h0 : Nat.beq n 0 = false := beq_ne (by omega)
  rw [h0, Bool.false_or] at this
  split at this
  · rename_i cs e; exact ⟨cs, e⟩
  · cases this
theorem sblk_eq {n j : Nat} (h : 1 ≤ n ∧ n ≤ 7) (h' : 1 ≤ j ∧ j ≤ 7) : Nat.beq (sblk n) (sblk j) = decide (n = j) := by
  have hall : ((List.range 8).all fun n => (List.range 8).all fun j => Nat.beq n 0 || Nat.beq j 0 || (Nat.beq (sblk n) (sblk j) == decide (n = j))) = true := by decide
  rw [List.all_eq_true] at hall
  have h1 := hall n (List.mem_range.2 (by omega))
  rw [List.all_eq_true] at h1
  have h2 := h1 j (List.mem_range.2 (by omega))
  rw [beq_ne (show n ≠ 0 by omega), beq_ne (show j ≠ 0 by omega)] at h2
  simpa using h2
theorem sblk_in {n : Nat} (h : 1 ≤ n ∧ n ≤ 7) : ng ≤ sblk n ∧ sblk n < nb := by
  have hall : ((List.range 8).all fun n => Nat.beq n 0 || (Nat.ble ng (sblk n) && Nat.blt (sblk n) nb)) = true := by decide
  rw [List.all_eq_true] at hall
  have h1 := hall n (List.mem_range.2 (by omega))
  rw [beq_ne (show n ≠ 0 by omega)] at h1
  simpa [Nat.ble_eq, Nat.blt_eq] using h1
theorem frz_sent {n : Nat} (h : 1 ≤ n ∧ n ≤ 7) : frz E.ng E.nb (sent n) = true := by
  have h1 := sblk_in h
  have h2 : E.nb = nb := rfl
  have h3 : E.ng = ng := rfl
  have h4 : ng + 2 ≤ nb := by decide
  rw [sent, frz_iface, frz_ptr, h2, h3]
  simp [h1.2, h4]
/-- an error's number, and how deep it is -/
inductive ErN : Nat → Value → Nat → Prop
  | new {n : Nat} (r a : Int) (h : 1 ≤ n ∧ n ≤ 7) : ErN 1 (fv r a (sent n)) n
  | deeper {d : Nat} {x : Value} {n : Nat} (r a : Int) (h : ErN d x n) : ErN (d + 1) (fv r a x) n
theorem ErN.val {d n : Nat} {v : Value} (h : ErN d v n) : 1 ≤ d ∧ 1 ≤ n ∧ n ≤ 7 ∧ ∃ r a x, v = fv r a x := by
  induction h with
  | new r a h => exact ⟨by omega, h.1, h.2, r, a, _, rfl⟩
  | deeper r a h ih => exact ⟨by omega, ih.2.1, ih.2.2.1, r, a, _, rfl⟩
theorem ErN.deep {d n : Nat} {v : Value} (h : ErN d v n) : ∀ {k : Nat}, d ≤ k → deepSent ec k v = some (sblk n) := by
  induction h with
  | new r a h =>
    intro k hk
    obtain ⟨k, rfl⟩ : ∃ m, k = m + 1 := ⟨k - 1, by omega⟩
    rfl
  | deeper r a h ih =>
    intro k hk
    obtain ⟨k, rfl⟩ : ∃ m, k = m + 1 := ⟨k - 1, by omega⟩
    obtain ⟨_, _, _, r', a', y, rfl⟩ := h.val
    exact ih (by omega)
theorem is_step {σ : AHeap} {v : Value} {d n j : Nat} (h : ErN d v n) (hd : d ≤ 4) (hj : 1 ≤ j ∧ j ≤ 7) {Q : Value → AHeap → Prop} (hq : Q (.bool (decide (n = j))) σ) : CallS E B 94 [v, sent j] σ Q := by
  intro H hH
  obtain ⟨_, n1, n2, r, a, x, rfl⟩ := h.val
  refine w_special (g := isSpec ec ng nb) rfl ?_ ⟨σ, hH, hq⟩
  obtain ⟨c1, g1⟩ := sblk_of ⟨n1, n2⟩
  obtain ⟨c2, g2⟩ := sblk_of hj
  have k1 := (hH.base _ (by rw [g1]; simp)).1.trans g1
  have k2 := (hH.base _ (by rw [g2]; simp)).1.trans g2
  have hds := h.deep hd
  have c : (Nat.ble ng (sblk n) && Nat.blt (sblk n) nb && Nat.ble ng (sblk j) && Nat.blt (sblk j) nb) = true := by
    have h1 := sblk_in ⟨n1, n2⟩
    have h2 := sblk_in hj
    simp only [Bool.and_eq_true, Nat.blt_eq, Nat.ble_eq]
    exact ⟨⟨⟨h1.1, h1.2⟩, h2.1⟩, h2.2⟩
  show isSpec ec ng nb [.iface 166 (.func (.yield 0) ⟨[.int .i64 r, .int .i64 a, x]⟩ ⟨[]⟩), .iface 230 (.pointer (some ⟨sblk j, 0, none⟩))] H = _
  simp only [isSpec]
  rw [show Nat.beq 230 ec.tES = true from rfl, if_pos rfl]
  rw [show deepSent ec 4 (.iface 166 (.func (.yield 0) ⟨[.int .i64 r, .int .i64 a, x]⟩ ⟨[]⟩)) = some (sblk n) from hds]
  simp only [sentEq]
  rw [if_pos c, k1, k2, sblk_eq ⟨n1, n2⟩ hj]
  rfl
theorem is_nil {σ : AHeap} {j : Nat} {Q : Value → AHeap → Prop} (hq : Q (.bool false) σ) : CallS E B 94 [.nilIface, sent j] σ Q :=
  fun H hH => w_special (g := isSpec ec ng nb) rfl rfl ⟨σ, hH, hq⟩
theorem specNewNil {a b : Int} {σ : AHeap} {Q : Value → AHeap → Prop} (h : Q .nilIface σ) : CallS E B 56 [.int .i64 a, .int .i64 b, .nilIface] σ Q := by
  refine call56 (by simp) ?_
  simp only [strip, bodyOf, Tryd.f56, getD_body, keepN, bareOp_mk, lessOp_mk, lapp_cons, lapp_nil, List.map_cons, List.map_nil, array_toList, ↓reduceIte, Nat.reduceEqDiff, Bool.false_eq_true]
  simp (disch := first | assumption | simp) only [↓sbD, sbU, tyB, Nat.reduceMul, Nat.reduceSub, Int.reduceEq, Int.reduceLT, Int.reduceLE, Int.reduceNe, Nat.reduceBneDiff, Nat.reduceBEq, decide_false, gt_iff_lt, Bool.or_self, Bool.false_eq_true, Nat.mul_one, Nat.one_mul, Nat.zero_mul, ↓reduceIte, Nat.reduceEqDiff, Nat.reduceLT, Nat.reduceAdd, Nat.reduceLeDiff, reduceCtorEq, goInt, pairs, isConst, TI.isAgg, splice, boxS, Edp, dpv, Nat.beq_eq, ZV.val, List.any_cons, List.any_nil]
  exact downS_here h
theorem specNew {a b : Int} {n : Nat} (hn : 1 ≤ n ∧ n ≤ 7) {σ : AHeap} {Q : Value → AHeap → Prop} (h : Q (fv a b (sent n)) σ) : CallS E B 56 [.int .i64 a, .int .i64 b, sent n] σ Q := by
  have hx := frz_sent hn
  unfold sent at hx h ⊢
  rw [frz_iface] at hx
  refine call56 (by simp) ?_
  simp only [strip, bodyOf, Tryd.f56, getD_body, keepN, bareOp_mk, lessOp_mk, lapp_cons, lapp_nil, List.map_cons, List.map_nil, array_toList, ↓reduceIte, Nat.reduceEqDiff, Bool.false_eq_true]
  simp (disch := first | assumption | simp) only [↓sbD, sbU, tyB, Nat.reduceMul, Nat.reduceSub, Int.reduceEq, Int.reduceLT, Int.reduceLE, Int.reduceNe, Nat.reduceBneDiff, Nat.reduceBEq, decide_false, gt_iff_lt, Bool.or_self, Bool.false_eq_true, Nat.mul_one, Nat.one_mul, Nat.zero_mul, ↓reduceIte, Nat.reduceEqDiff, Nat.reduceLT, Nat.reduceAdd, Nat.reduceLeDiff, reduceCtorEq, goInt, pairs, isConst, TI.isAgg, splice, boxS, Edp, dpv, Nat.beq_eq, ZV.val, List.any_cons, List.any_nil, hx]
  exact downS_here h
end Go.Proofs.YtccimdfmddomaaaDoor.AbsA
