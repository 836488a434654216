/-
  Parts of a law's proof.
-/
import Derived.Test.YtccimdfmddomaaaDoorAPrqbJ
import Derived.Test.YtccimdfmddomaaaDoorARdqcJ
import Derived.Test.YtccimdfmddomaaaDoorAFwqdJ
namespace Go.Proofs.YtccimdfmddomaaaDoor.AbsA
open Go AbsYtccimdfmddomaaaDoor Abs
set_option maxRecDepth 100000
set_option maxHeartbeats 2000000
set_option linter.unusedSimpArgs false
set_option linter.unusedVariables false
attribute [local irreducible] afterS afterOpS opSK OpsS TrS CodeS condS condW thenS thenQ guardS guardTS outS drawS trSK consS
theorem Kept.setD {σ σ' : AHeap} {fp fp' : List Nat} {c : Nat} {o : AObj} (k : Kept σ fp σ' fp') (hc : σ.get c = .dead) : Kept σ fp (σ'.set c o) fp' :=
  ⟨fun b hb hn => by rw [AHeap.get_set_ne _ _ (by rintro rfl; exact hb hc)]; exact k.get b hb hn, k.new⟩
theorem Kept.self {σ σ' : AHeap} {fp fp' : List Nat} (k : Kept σ fp σ' fp') : Kept σ fp σ' fp := ⟨k.get, fun _ h => .inl h⟩
theorem Kept.fst {σ σ' : AHeap} {fp : List Nat} {r : Nat} (k : Kept σ [] σ' fp) : Kept σ [r] σ' [r] := ⟨fun b hb hn => k.get b hb (by simp), fun _ h => .inl h⟩
theorem numR_le {s : ByteArray} {p k n q : Nat} (h : numR s p k = .ok (n, q)) : p ≤ q ∧ q ≤ s.size := by
  have := numR_ok h; omega
section
variable {σ : AHeap} {Q : Value → AHeap → Prop} {r : Nat} {s : ByteArray} {p : Nat}
theorem rawR_ok' {n : Int} {v : ByteArray} {q : Nat} (hn : 0 ≤ n) (h : rawR s p n = .ok (v, q)) : q = p + n.toNat ∧ q ≤ s.size ∧ v.size = n.toNat := by
  unfold rawR at h
  split at h
  · cases h
  split at h
  · cases h
  · simp only [Except.ok.injEq, Prod.mk.injEq] at h
    obtain ⟨h1, h2⟩ := h
    subst h1
    rw [ByteArray.size_extract]
    omega
end
end Go.Proofs.YtccimdfmddomaaaDoor.AbsA
namespace Go.Proofs.YtccimdfmddomaaaDoor.AbsA
open Go AbsYtccimdfmddomaaaDoor Abs
set_option maxRecDepth 100000
set_option maxHeartbeats 2000000
set_option linter.unusedSimpArgs false
set_option linter.unusedVariables false
/-- the document's error -/
abbrev flt (k r a : Int) : Value := .agg ⟨[.int .i64 k, .int .i64 r, .int .i64 a]⟩
theorem zeFlt : azero E 40 = some [.int .i64 0, .int .i64 0, .int .i64 0] := rfl
end Go.Proofs.YtccimdfmddomaaaDoor.AbsA
namespace Go.Proofs.YtccimdfmddomaaaDoor.AbsA
open Go AbsYtccimdfmddomaaaDoor Abs
set_option maxRecDepth 100000
set_option maxHeartbeats 2000000
set_option linter.unusedSimpArgs false
set_option linter.unusedVariables false
attribute [local irreducible] afterS afterOpS opSK OpsS TrS CodeS condS condW thenS thenQ guardS guardTS outS drawS trSK consS
/-- the document's reader: bytes, place, the error's number and place -/
def IsY (σ : AHeap) (r : Nat) (s : ByteArray) (p : Nat) (e a : Int) : Prop := σ.get r = .cells [.string s, .int .i64 (p : Int), .int .i64 e, .int .i64 a] true 0
section
variable {σ : AHeap} {Q : Value → AHeap → Prop} {r p : Nat} {s : ByteArray}
theorem IsY.kept {σ' : AHeap} {e a : Int} {gp gp' : List Nat} (h : IsY σ r s p e a) (k : Kept σ gp σ' gp') (hd : r ∉ gp) : IsY σ' r s p e a := (k.at h (by simp) hd).1
theorem rawR_k {n : Int} {k q : Nat} (h : rawR s p n = .error (k, q)) : k ≠ 0 := by
  unfold rawR at h
  split at h
  · simp only [Except.error.injEq, Prod.mk.injEq] at h; omega
  split at h
  · simp only [Except.error.injEq, Prod.mk.injEq] at h; omega
  · cases h
theorem numR_k {m k q : Nat} (h : numR s p m = .error (k, q)) : k ≠ 0 := by
  unfold numR at h
  cases hb : rawR s p (m : Int) with
  | ok a => rw [hb] at h; cases h
  | error e => obtain ⟨j, q'⟩ := e; rw [hb] at h; simp only [Except.error.injEq, Prod.mk.injEq] at h; have := rawR_k hb; omega
theorem specYFail {e a n : Int} {q : Int} (hr : IsY σ r s p e a) (h : Q unit (σ.set r (.cells [.string s, .int .i64 (p : Int), .int .i64 n, .int .i64 q] true 0))) : CallS E B 149 [.pointer (some ⟨r, 0, none⟩), .int .i64 n, .int .i64 q] σ Q := by
  unfold IsY at hr
  refine call149 (by simp) ?_
  simp only [strip, bodyOf, Tryd.f149, getD_body, keepN, bareOp_mk, lessOp_mk, lapp_cons, lapp_nil, List.map_cons, List.map_nil, array_toList, ↓reduceIte, Nat.reduceEqDiff, Bool.false_eq_true]
  simp (disch := first | assumption | simp) only [↓sbD, sbU, tyB, Nat.reduceMul, Nat.reduceSub, Int.reduceEq, Int.reduceLT, Int.reduceLE, Int.reduceNe, Nat.reduceBneDiff, Nat.reduceBEq, decide_false, gt_iff_lt, Bool.or_self, Bool.false_eq_true, Nat.mul_one, Nat.one_mul, Nat.zero_mul, ↓reduceIte, Nat.reduceEqDiff, Nat.reduceLT, Nat.reduceAdd, Nat.reduceLeDiff, reduceCtorEq, goInt, pairs, isConst, TI.isAgg, splice, boxS, Edp, dpv, Nat.beq_eq, ZV.val, List.any_cons, List.any_nil, hr]
  have hle : Le (σ.set r (.cells [.string s, .int .i64 (p : Int), .int .i64 n, .int .i64 q] true 0)) ((σ.set r (.cells [.string s, .int .i64 (p : Int), .int .i64 n, .int .i64 a] true 0)).set r (.cells [.string s, .int .i64 (p : Int), .int .i64 n, .int .i64 q] true 0)) := by
    intro b hb
    by_cases hbr : b = r
    · subst hbr; rw [AHeap.get_set_same, AHeap.get_set_same]
    · rw [AHeap.get_set_ne _ _ (Ne.symm hbr), AHeap.get_set_ne _ _ (Ne.symm hbr), AHeap.get_set_ne _ _ (Ne.symm hbr)]
  exact downS_le hle h
theorem specYTakeE {n k a : Int} (hr : IsY σ r s p k a) (hk : k ≠ 0) (h : Q (.tuple #[.string emp, .bool false]) σ) : CallS E B 122 [.pointer (some ⟨r, 0, none⟩), .int .i64 n] σ Q := by
  unfold IsY at hr
  refine call122 (by simp) ?_
  simp only [strip, bodyOf, Tryd.f122, getD_body, keepN, bareOp_mk, lessOp_mk, lapp_cons, lapp_nil, List.map_cons, List.map_nil, array_toList, ↓reduceIte, Nat.reduceEqDiff, Bool.false_eq_true]
  simp (disch := first | assumption | simp) only [↓sbD, sbU, tyB, Nat.reduceMul, Nat.reduceSub, Int.reduceEq, Int.reduceLT, Int.reduceLE, Int.reduceNe, Nat.reduceBneDiff, Nat.reduceBEq, decide_false, gt_iff_lt, Bool.or_self, Bool.false_eq_true, Nat.mul_one, Nat.one_mul, Nat.zero_mul, ↓reduceIte, Nat.reduceEqDiff, Nat.reduceLT, Nat.reduceAdd, Nat.reduceLeDiff, reduceCtorEq, goInt, pairs, isConst, TI.isAgg, splice, boxS, Edp, dpv, Nat.beq_eq, ZV.val, List.any_cons, List.any_nil, hr, hk]
  exact downS_here h
theorem specYTake {n a : Int} (hr : IsY σ r s p 0 a) (hp : p ≤ s.size) (hs : s.size ≤ 1000000000)
    (hok : ∀ v q, rawR s p n = .ok (v, q) → ∀ σ', Kept σ [r] σ' [r] → IsY σ' r s q 0 a → Q (.tuple #[.string v, .bool true]) σ')
    (hbad : ∀ k q, rawR s p n = .error (k, q) → ∀ σ', Kept σ [r] σ' [r] → IsY σ' r s p (k : Int) (q : Int) → Q (.tuple #[.string emp, .bool false]) σ') : CallS E B 122 [.pointer (some ⟨r, 0, none⟩), .int .i64 n] σ Q := by
  have hr' := hr
  unfold IsY at hr'
  have hw : IntKind.i64.wrap ((s.size : Int) - (p : Int)) = (s.size : Int) - (p : Int) := wrap64 ⟨by omega, by omega⟩
  refine call122 (by simp) ?_
  simp only [strip, bodyOf, Tryd.f122, getD_body, keepN, bareOp_mk, lessOp_mk, lapp_cons, lapp_nil, List.map_cons, List.map_nil, array_toList, ↓reduceIte, Nat.reduceEqDiff, Bool.false_eq_true]
  by_cases h0 : n < 0
  · simp (disch := first | assumption | simp) only [↓sbD, sbU, tyB, Nat.reduceMul, Nat.reduceSub, Int.reduceEq, Int.reduceLT, Int.reduceLE, Int.reduceNe, Nat.reduceBneDiff, Nat.reduceBEq, decide_false, gt_iff_lt, Bool.or_self, Bool.false_eq_true, Nat.mul_one, Nat.one_mul, Nat.zero_mul, ↓reduceIte, Nat.reduceEqDiff, Nat.reduceLT, Nat.reduceAdd, Nat.reduceLeDiff, reduceCtorEq, goInt, pairs, isConst, TI.isAgg, splice, boxS, Edp, dpv, Nat.beq_eq, ZV.val, List.any_cons, List.any_nil, hr', h0]
    refine specYFail hr ?_
    simp (disch := first | assumption | simp) only [↓sbD, sbU, tyB, Nat.reduceMul, Nat.reduceSub, Int.reduceEq, Int.reduceLT, Int.reduceLE, Int.reduceNe, Nat.reduceBneDiff, Nat.reduceBEq, decide_false, gt_iff_lt, Bool.or_self, Bool.false_eq_true, Nat.mul_one, Nat.one_mul, Nat.zero_mul, ↓reduceIte, Nat.reduceEqDiff, Nat.reduceLT, Nat.reduceAdd, Nat.reduceLeDiff, reduceCtorEq, goInt, pairs, isConst, TI.isAgg, splice, boxS, Edp, dpv, Nat.beq_eq, ZV.val, List.any_cons, List.any_nil]
    exact downS_here (hbad 4 p (by unfold rawR; rw [if_pos h0]) _ (Kept.set (by simp)) (AHeap.get_set_same _ _ _))
  · obtain ⟨N, rfl⟩ : ∃ N : Nat, n = N := ⟨n.toNat, by omega⟩
    by_cases h1 : (s.size : Int) - (p : Int) < (N : Int)
    · simp (disch := first | assumption | simp) only [↓sbD, sbU, tyB, Nat.reduceMul, Nat.reduceSub, Int.reduceEq, Int.reduceLT, Int.reduceLE, Int.reduceNe, Nat.reduceBneDiff, Nat.reduceBEq, decide_false, gt_iff_lt, Bool.or_self, Bool.false_eq_true, Nat.mul_one, Nat.one_mul, Nat.zero_mul, ↓reduceIte, Nat.reduceEqDiff, Nat.reduceLT, Nat.reduceAdd, Nat.reduceLeDiff, reduceCtorEq, goInt, pairs, isConst, TI.isAgg, splice, boxS, Edp, dpv, Nat.beq_eq, ZV.val, List.any_cons, List.any_nil, hr', h0, hw, h1]
      refine specYFail hr ?_
      simp (disch := first | assumption | simp) only [↓sbD, sbU, tyB, Nat.reduceMul, Nat.reduceSub, Int.reduceEq, Int.reduceLT, Int.reduceLE, Int.reduceNe, Nat.reduceBneDiff, Nat.reduceBEq, decide_false, gt_iff_lt, Bool.or_self, Bool.false_eq_true, Nat.mul_one, Nat.one_mul, Nat.zero_mul, ↓reduceIte, Nat.reduceEqDiff, Nat.reduceLT, Nat.reduceAdd, Nat.reduceLeDiff, reduceCtorEq, goInt, pairs, isConst, TI.isAgg, splice, boxS, Edp, dpv, Nat.beq_eq, ZV.val, List.any_cons, List.any_nil]
      exact downS_here (hbad 1 s.size (by unfold rawR; rw [if_neg h0, if_pos (by simp only [Int.toNat_natCast]; omega)]) _ (Kept.set (by simp)) (AHeap.get_set_same _ _ _))
    · have hw2 : IntKind.i64.wrap ((p : Int) + (N : Int)) = ((p + N : Nat) : Int) := by rw [wrap64 ⟨by omega, by omega⟩]; omega
      have sl1 : ∀ τ : AHeap, aslice E τ 9 (.string s) (some (.int .i64 (p : Int))) (some (.int .i64 ((p + N : Nat) : Int))) none = some (.string (s.extract p (p + N))) := fun τ => slice_str ty9 (by omega) (by omega)
      simp (disch := first | assumption | simp) only [↓sbD, sbU, tyB, Nat.reduceMul, Nat.reduceSub, Int.reduceEq, Int.reduceLT, Int.reduceLE, Int.reduceNe, Nat.reduceBneDiff, Nat.reduceBEq, decide_false, gt_iff_lt, Bool.or_self, Bool.false_eq_true, Nat.mul_one, Nat.one_mul, Nat.zero_mul, ↓reduceIte, Nat.reduceEqDiff, Nat.reduceLT, Nat.reduceAdd, Nat.reduceLeDiff, reduceCtorEq, goInt, pairs, isConst, TI.isAgg, splice, boxS, Edp, dpv, Nat.beq_eq, ZV.val, List.any_cons, List.any_nil, hr', h0, hw, h1, hw2, sl1, Option.map_some, Option.map_none]
      exact downS_here (hok (s.extract p (p + N)) (p + N) (by unfold rawR; rw [if_neg h0, if_neg (by simp only [Int.toNat_natCast]; omega)]; simp only [Int.toNat_natCast]) _ (Kept.set (by simp)) (AHeap.get_set_same _ _ _))
theorem specYNum {k : Nat} {a : Int} (hk : k ≤ 4) (hr : IsY σ r s p 0 a) (hp : p ≤ s.size) (hs : s.size ≤ 1000000000)
    (hok : ∀ n q, numR s p k = .ok (n, q) → ∀ σ', Kept σ [r] σ' [r] → IsY σ' r s q 0 a → Q (.int .i64 (n : Int)) σ')
    (hbad : ∀ e q, numR s p k = .error (e, q) → ∀ σ', Kept σ [r] σ' [r] → IsY σ' r s p (e : Int) (q : Int) → Q (.int .i64 0) σ') : CallS E B 124 [.pointer (some ⟨r, 0, none⟩), .int .i64 (k : Int)] σ Q := by
  unfold numR at hok hbad
  refine call124 (by simp) ?_
  simp only [strip, bodyOf, Tryd.f124, getD_body, keepN, bareOp_mk, lessOp_mk, lapp_cons, lapp_nil, List.map_cons, List.map_nil, array_toList, ↓reduceIte, Nat.reduceEqDiff, Bool.false_eq_true]
  simp (disch := first | assumption | simp) only [↓sbD, sbU, tyB, Nat.reduceMul, Nat.reduceSub, Int.reduceEq, Int.reduceLT, Int.reduceLE, Int.reduceNe, Nat.reduceBneDiff, Nat.reduceBEq, decide_false, gt_iff_lt, Bool.or_self, Bool.false_eq_true, Nat.mul_one, Nat.one_mul, Nat.zero_mul, ↓reduceIte, Nat.reduceEqDiff, Nat.reduceLT, Nat.reduceAdd, Nat.reduceLeDiff, reduceCtorEq, goInt, pairs, isConst, TI.isAgg, splice, boxS, Edp, dpv, Nat.beq_eq, ZV.val, List.any_cons, List.any_nil]
  refine specYTake hr hp hs (fun v q hv σ1 k1 i1 => ?_) fun e q hv σ1 k1 i1 => ?_
  · rw [hv] at hok
    have hvz := rawR_ok' (by omega) hv
    rw [Int.toNat_natCast] at hvz
    simp (disch := first | assumption | simp) only [↓sbD, sbU, tyB, Nat.reduceMul, Nat.reduceSub, Int.reduceEq, Int.reduceLT, Int.reduceLE, Int.reduceNe, Nat.reduceBneDiff, Nat.reduceBEq, decide_false, gt_iff_lt, Bool.or_self, Bool.false_eq_true, Nat.mul_one, Nat.one_mul, Nat.zero_mul, ↓reduceIte, Nat.reduceEqDiff, Nat.reduceLT, Nat.reduceAdd, Nat.reduceLeDiff, reduceCtorEq, goInt, pairs, isConst, TI.isAgg, splice, boxS, Edp, dpv, Nat.beq_eq, ZV.val, List.any_cons, List.any_nil]
    refine S_loop (fun m f σ' => σ' = σ1 ∧ ∃ i : Nat, m + i = v.size ∧ f 8 = .int .i64 i ∧ f 7 = .int .i64 ((beF v i : Nat) : Int)) v.size (Le.refl _) ⟨rfl, 0, rfl, by simp (disch := first | assumption | simp) only [↓sbD, sbU, tyB, Nat.reduceMul, Nat.reduceSub, Int.reduceEq, Int.reduceLT, Int.reduceLE, Int.reduceNe, Nat.reduceBneDiff, Nat.reduceBEq, decide_false, gt_iff_lt, Bool.or_self, Bool.false_eq_true, Nat.mul_one, Nat.one_mul, Nat.zero_mul, ↓reduceIte, Nat.reduceEqDiff, Nat.reduceLT, Nat.reduceAdd, Nat.reduceLeDiff, reduceCtorEq, goInt, pairs, isConst, TI.isAgg, splice, boxS, Edp, dpv, Nat.beq_eq, ZV.val, List.any_cons, List.any_nil]; rfl, by simp (disch := first | assumption | simp) only [↓sbD, sbU, tyB, Nat.reduceMul, Nat.reduceSub, Int.reduceEq, Int.reduceLT, Int.reduceLE, Int.reduceNe, Nat.reduceBneDiff, Nat.reduceBEq, decide_false, gt_iff_lt, Bool.or_self, Bool.false_eq_true, Nat.mul_one, Nat.one_mul, Nat.zero_mul, ↓reduceIte, Nat.reduceEqDiff, Nat.reduceLT, Nat.reduceAdd, Nat.reduceLeDiff, reduceCtorEq, goInt, pairs, isConst, TI.isAgg, splice, boxS, Edp, dpv, Nat.beq_eq, ZV.val, List.any_cons, List.any_nil]; rfl⟩ ?_
    rintro m f σ' ⟨rfl, i, hm, f8, f7⟩ hf
    have f5 := hf 5 (by decide) (notMem_wr (by kernel_rfl))
    have f6 := hf 6 (by decide) (notMem_wr (by kernel_rfl))
    simp (disch := first | assumption | simp) only [↓sbD, sbU, tyB, Nat.reduceMul, Nat.reduceSub, Int.reduceEq, Int.reduceLT, Int.reduceLE, Int.reduceNe, Nat.reduceBneDiff, Nat.reduceBEq, decide_false, gt_iff_lt, Bool.or_self, Bool.false_eq_true, Nat.mul_one, Nat.one_mul, Nat.zero_mul, ↓reduceIte, Nat.reduceEqDiff, Nat.reduceLT, Nat.reduceAdd, Nat.reduceLeDiff, reduceCtorEq, goInt, pairs, isConst, TI.isAgg, splice, boxS, Edp, dpv, Nat.beq_eq, ZV.val, List.any_cons, List.any_nil] at f5 f6
    clear hf
    by_cases hi : (i : Int) < (v.size : Int)
    · have hbl := beF_lt v i
      have hpow : 256 ^ i ≤ 256 ^ 4 := Nat.pow_le_pow_right (by omega) (by omega)
      have hbt := bt_lt v i
      have hidx : aindex E 9 (.string v) (.int .i64 (i : Int)) = some (.int .u8 ((bt v i : Nat) : Int)) := idx_str (by omega)
      have hwb : IntKind.i64.wrap ((bt v i : Nat) : Int) = ((bt v i : Nat) : Int) := wrap64 ⟨by omega, by omega⟩
      have hwm : IntKind.i64.wrap (((beF v i : Nat) : Int) * 256) = ((beF v i * 256 : Nat) : Int) := by rw [wrap64 ⟨by omega, by omega⟩]; omega
      have hwa : IntKind.i64.wrap (((beF v i * 256 : Nat) : Int) + ((bt v i : Nat) : Int)) = ((beF v (i + 1) : Nat) : Int) := by
        rw [wrap64 ⟨by omega, by omega⟩]; simp only [beF]; omega
      have hw := wrap_suc (n := i) (by omega)
      simp (disch := first | assumption | simp) only [↓sbD, sbU, tyB, Nat.reduceMul, Nat.reduceSub, Int.reduceEq, Int.reduceLT, Int.reduceLE, Int.reduceNe, Nat.reduceBneDiff, Nat.reduceBEq, decide_false, gt_iff_lt, Bool.or_self, Bool.false_eq_true, Nat.mul_one, Nat.one_mul, Nat.zero_mul, ↓reduceIte, Nat.reduceEqDiff, Nat.reduceLT, Nat.reduceAdd, Nat.reduceLeDiff, reduceCtorEq, goInt, pairs, isConst, TI.isAgg, splice, boxS, Edp, dpv, Nat.beq_eq, ZV.val, List.any_cons, List.any_nil, f5, f6, f7, f8, hi, hidx, hwb, hwm, hwa, hw]
      exact ⟨_, m - 1, _, rfl, by omega, Le.refl _, rfl, i + 1, by omega, by simp (disch := first | assumption | simp) only [↓sbD, sbU, tyB, Nat.reduceMul, Nat.reduceSub, Int.reduceEq, Int.reduceLT, Int.reduceLE, Int.reduceNe, Nat.reduceBneDiff, Nat.reduceBEq, decide_false, gt_iff_lt, Bool.or_self, Bool.false_eq_true, Nat.mul_one, Nat.one_mul, Nat.zero_mul, ↓reduceIte, Nat.reduceEqDiff, Nat.reduceLT, Nat.reduceAdd, Nat.reduceLeDiff, reduceCtorEq, goInt, pairs, isConst, TI.isAgg, splice, boxS, Edp, dpv, Nat.beq_eq, ZV.val, List.any_cons, List.any_nil], by simp (disch := first | assumption | simp) only [↓sbD, sbU, tyB, Nat.reduceMul, Nat.reduceSub, Int.reduceEq, Int.reduceLT, Int.reduceLE, Int.reduceNe, Nat.reduceBneDiff, Nat.reduceBEq, decide_false, gt_iff_lt, Bool.or_self, Bool.false_eq_true, Nat.mul_one, Nat.one_mul, Nat.zero_mul, ↓reduceIte, Nat.reduceEqDiff, Nat.reduceLT, Nat.reduceAdd, Nat.reduceLeDiff, reduceCtorEq, goInt, pairs, isConst, TI.isAgg, splice, boxS, Edp, dpv, Nat.beq_eq, ZV.val, List.any_cons, List.any_nil]⟩
    · obtain rfl : i = v.size := by omega
      simp (disch := first | assumption | simp) only [↓sbD, sbU, tyB, Nat.reduceMul, Nat.reduceSub, Int.reduceEq, Int.reduceLT, Int.reduceLE, Int.reduceNe, Nat.reduceBneDiff, Nat.reduceBEq, decide_false, gt_iff_lt, Bool.or_self, Bool.false_eq_true, Nat.mul_one, Nat.one_mul, Nat.zero_mul, ↓reduceIte, Nat.reduceEqDiff, Nat.reduceLT, Nat.reduceAdd, Nat.reduceLeDiff, reduceCtorEq, goInt, pairs, isConst, TI.isAgg, splice, boxS, Edp, dpv, Nat.beq_eq, ZV.val, List.any_cons, List.any_nil, f5, f6, f7, f8, hi]
      exact downS_here (hok _ q rfl _ k1 i1)
  · rw [hv] at hbad
    simp (disch := first | assumption | simp) only [↓sbD, sbU, tyB, Nat.reduceMul, Nat.reduceSub, Int.reduceEq, Int.reduceLT, Int.reduceLE, Int.reduceNe, Nat.reduceBneDiff, Nat.reduceBEq, decide_false, gt_iff_lt, Bool.or_self, Bool.false_eq_true, Nat.mul_one, Nat.one_mul, Nat.zero_mul, ↓reduceIte, Nat.reduceEqDiff, Nat.reduceLT, Nat.reduceAdd, Nat.reduceLeDiff, reduceCtorEq, goInt, pairs, isConst, TI.isAgg, splice, boxS, Edp, dpv, Nat.beq_eq, ZV.val, List.any_cons, List.any_nil]
    refine S_loop (fun m f σ' => σ' = σ1 ∧ f 7 = .int .i64 0 ∧ f 8 = .int .i64 0) 1 (Le.refl _) ⟨rfl, by simp (disch := first | assumption | simp) only [↓sbD, sbU, tyB, Nat.reduceMul, Nat.reduceSub, Int.reduceEq, Int.reduceLT, Int.reduceLE, Int.reduceNe, Nat.reduceBneDiff, Nat.reduceBEq, decide_false, gt_iff_lt, Bool.or_self, Bool.false_eq_true, Nat.mul_one, Nat.one_mul, Nat.zero_mul, ↓reduceIte, Nat.reduceEqDiff, Nat.reduceLT, Nat.reduceAdd, Nat.reduceLeDiff, reduceCtorEq, goInt, pairs, isConst, TI.isAgg, splice, boxS, Edp, dpv, Nat.beq_eq, ZV.val, List.any_cons, List.any_nil], by simp (disch := first | assumption | simp) only [↓sbD, sbU, tyB, Nat.reduceMul, Nat.reduceSub, Int.reduceEq, Int.reduceLT, Int.reduceLE, Int.reduceNe, Nat.reduceBneDiff, Nat.reduceBEq, decide_false, gt_iff_lt, Bool.or_self, Bool.false_eq_true, Nat.mul_one, Nat.one_mul, Nat.zero_mul, ↓reduceIte, Nat.reduceEqDiff, Nat.reduceLT, Nat.reduceAdd, Nat.reduceLeDiff, reduceCtorEq, goInt, pairs, isConst, TI.isAgg, splice, boxS, Edp, dpv, Nat.beq_eq, ZV.val, List.any_cons, List.any_nil]⟩ ?_
    rintro m f σ' ⟨rfl, f7, f8⟩ hf
    have f5 := hf 5 (by decide) (notMem_wr (by kernel_rfl))
    have f6 := hf 6 (by decide) (notMem_wr (by kernel_rfl))
    simp (disch := first | assumption | simp) only [↓sbD, sbU, tyB, Nat.reduceMul, Nat.reduceSub, Int.reduceEq, Int.reduceLT, Int.reduceLE, Int.reduceNe, Nat.reduceBneDiff, Nat.reduceBEq, decide_false, gt_iff_lt, Bool.or_self, Bool.false_eq_true, Nat.mul_one, Nat.one_mul, Nat.zero_mul, ↓reduceIte, Nat.reduceEqDiff, Nat.reduceLT, Nat.reduceAdd, Nat.reduceLeDiff, reduceCtorEq, goInt, pairs, isConst, TI.isAgg, splice, boxS, Edp, dpv, Nat.beq_eq, ZV.val, List.any_cons, List.any_nil] at f5 f6
    clear hf
    have he0 : ((emp.size : Nat) : Int) = 0 := rfl
    simp (disch := first | assumption | simp) only [↓sbD, sbU, tyB, Nat.reduceMul, Nat.reduceSub, Int.reduceEq, Int.reduceLT, Int.reduceLE, Int.reduceNe, Nat.reduceBneDiff, Nat.reduceBEq, decide_false, gt_iff_lt, Bool.or_self, Bool.false_eq_true, Nat.mul_one, Nat.one_mul, Nat.zero_mul, ↓reduceIte, Nat.reduceEqDiff, Nat.reduceLT, Nat.reduceAdd, Nat.reduceLeDiff, reduceCtorEq, goInt, pairs, isConst, TI.isAgg, splice, boxS, Edp, dpv, Nat.beq_eq, ZV.val, List.any_cons, List.any_nil, f5, f6, f7, f8, he0]
    exact downS_here (hbad e q rfl _ k1 i1)
theorem specYNumE {k : Nat} {e a : Int} (hr : IsY σ r s p e a) (he : e ≠ 0) (h : Q (.int .i64 0) σ) : CallS E B 124 [.pointer (some ⟨r, 0, none⟩), .int .i64 (k : Int)] σ Q := by
  refine call124 (by simp) ?_
  simp only [strip, bodyOf, Tryd.f124, getD_body, keepN, bareOp_mk, lessOp_mk, lapp_cons, lapp_nil, List.map_cons, List.map_nil, array_toList, ↓reduceIte, Nat.reduceEqDiff, Bool.false_eq_true]
  simp (disch := first | assumption | simp) only [↓sbD, sbU, tyB, Nat.reduceMul, Nat.reduceSub, Int.reduceEq, Int.reduceLT, Int.reduceLE, Int.reduceNe, Nat.reduceBneDiff, Nat.reduceBEq, decide_false, gt_iff_lt, Bool.or_self, Bool.false_eq_true, Nat.mul_one, Nat.one_mul, Nat.zero_mul, ↓reduceIte, Nat.reduceEqDiff, Nat.reduceLT, Nat.reduceAdd, Nat.reduceLeDiff, reduceCtorEq, goInt, pairs, isConst, TI.isAgg, splice, boxS, Edp, dpv, Nat.beq_eq, ZV.val, List.any_cons, List.any_nil]
  refine specYTakeE hr he ?_
  simp (disch := first | assumption | simp) only [↓sbD, sbU, tyB, Nat.reduceMul, Nat.reduceSub, Int.reduceEq, Int.reduceLT, Int.reduceLE, Int.reduceNe, Nat.reduceBneDiff, Nat.reduceBEq, decide_false, gt_iff_lt, Bool.or_self, Bool.false_eq_true, Nat.mul_one, Nat.one_mul, Nat.zero_mul, ↓reduceIte, Nat.reduceEqDiff, Nat.reduceLT, Nat.reduceAdd, Nat.reduceLeDiff, reduceCtorEq, goInt, pairs, isConst, TI.isAgg, splice, boxS, Edp, dpv, Nat.beq_eq, ZV.val, List.any_cons, List.any_nil]
  refine S_loop (fun m f σ' => σ' = σ ∧ f 7 = .int .i64 0 ∧ f 8 = .int .i64 0) 1 (Le.refl _) ⟨rfl, by simp (disch := first | assumption | simp) only [↓sbD, sbU, tyB, Nat.reduceMul, Nat.reduceSub, Int.reduceEq, Int.reduceLT, Int.reduceLE, Int.reduceNe, Nat.reduceBneDiff, Nat.reduceBEq, decide_false, gt_iff_lt, Bool.or_self, Bool.false_eq_true, Nat.mul_one, Nat.one_mul, Nat.zero_mul, ↓reduceIte, Nat.reduceEqDiff, Nat.reduceLT, Nat.reduceAdd, Nat.reduceLeDiff, reduceCtorEq, goInt, pairs, isConst, TI.isAgg, splice, boxS, Edp, dpv, Nat.beq_eq, ZV.val, List.any_cons, List.any_nil], by simp (disch := first | assumption | simp) only [↓sbD, sbU, tyB, Nat.reduceMul, Nat.reduceSub, Int.reduceEq, Int.reduceLT, Int.reduceLE, Int.reduceNe, Nat.reduceBneDiff, Nat.reduceBEq, decide_false, gt_iff_lt, Bool.or_self, Bool.false_eq_true, Nat.mul_one, Nat.one_mul, Nat.zero_mul, ↓reduceIte, Nat.reduceEqDiff, Nat.reduceLT, Nat.reduceAdd, Nat.reduceLeDiff, reduceCtorEq, goInt, pairs, isConst, TI.isAgg, splice, boxS, Edp, dpv, Nat.beq_eq, ZV.val, List.any_cons, List.any_nil]⟩ ?_
  rintro m f σ' ⟨rfl, f7, f8⟩ hf
  have f5 := hf 5 (by decide) (notMem_wr (by kernel_rfl))
  have f6 := hf 6 (by decide) (notMem_wr (by kernel_rfl))
  simp (disch := first | assumption | simp) only [↓sbD, sbU, tyB, Nat.reduceMul, Nat.reduceSub, Int.reduceEq, Int.reduceLT, Int.reduceLE, Int.reduceNe, Nat.reduceBneDiff, Nat.reduceBEq, decide_false, gt_iff_lt, Bool.or_self, Bool.false_eq_true, Nat.mul_one, Nat.one_mul, Nat.zero_mul, ↓reduceIte, Nat.reduceEqDiff, Nat.reduceLT, Nat.reduceAdd, Nat.reduceLeDiff, reduceCtorEq, goInt, pairs, isConst, TI.isAgg, splice, boxS, Edp, dpv, Nat.beq_eq, ZV.val, List.any_cons, List.any_nil] at f5 f6
  clear hf
  have he0 : ((emp.size : Nat) : Int) = 0 := rfl
  simp (disch := first | assumption | simp) only [↓sbD, sbU, tyB, Nat.reduceMul, Nat.reduceSub, Int.reduceEq, Int.reduceLT, Int.reduceLE, Int.reduceNe, Nat.reduceBneDiff, Nat.reduceBEq, decide_false, gt_iff_lt, Bool.or_self, Bool.false_eq_true, Nat.mul_one, Nat.one_mul, Nat.zero_mul, ↓reduceIte, Nat.reduceEqDiff, Nat.reduceLT, Nat.reduceAdd, Nat.reduceLeDiff, reduceCtorEq, goInt, pairs, isConst, TI.isAgg, splice, boxS, Edp, dpv, Nat.beq_eq, ZV.val, List.any_cons, List.any_nil, f5, f6, f7, f8, he0]
  exact downS_here h
theorem specYU8 {a : Int} (hr : IsY σ r s p 0 a) (hp : p ≤ s.size) (hs : s.size ≤ 1000000000)
    (hok : ∀ n q, numR s p 1 = .ok (n, q) → ∀ σ', Kept σ [r] σ' [r] → IsY σ' r s q 0 a → Q (.int .i64 (n : Int)) σ')
    (hbad : ∀ e q, numR s p 1 = .error (e, q) → ∀ σ', Kept σ [r] σ' [r] → IsY σ' r s p (e : Int) (q : Int) → Q (.int .i64 0) σ') : CallS E B 79 [.pointer (some ⟨r, 0, none⟩)] σ Q := by
  refine call79 (by simp) ?_
  simp only [strip, bodyOf, Tryd.f79, getD_body, keepN, bareOp_mk, lessOp_mk, lapp_cons, lapp_nil, List.map_cons, List.map_nil, array_toList, ↓reduceIte, Nat.reduceEqDiff, Bool.false_eq_true]
  simp (disch := first | assumption | simp) only [↓sbD, sbU, tyB, Nat.reduceMul, Nat.reduceSub, Int.reduceEq, Int.reduceLT, Int.reduceLE, Int.reduceNe, Nat.reduceBneDiff, Nat.reduceBEq, decide_false, gt_iff_lt, Bool.or_self, Bool.false_eq_true, Nat.mul_one, Nat.one_mul, Nat.zero_mul, ↓reduceIte, Nat.reduceEqDiff, Nat.reduceLT, Nat.reduceAdd, Nat.reduceLeDiff, reduceCtorEq, goInt, pairs, isConst, TI.isAgg, splice, boxS, Edp, dpv, Nat.beq_eq, ZV.val, List.any_cons, List.any_nil]
  refine specYNum (k := 1) (by omega) hr hp hs (fun n q hn σ' k1 i1 => ?_) fun e q hn σ' k1 i1 => ?_
  · simp (disch := first | assumption | simp) only [↓sbD, sbU, tyB, Nat.reduceMul, Nat.reduceSub, Int.reduceEq, Int.reduceLT, Int.reduceLE, Int.reduceNe, Nat.reduceBneDiff, Nat.reduceBEq, decide_false, gt_iff_lt, Bool.or_self, Bool.false_eq_true, Nat.mul_one, Nat.one_mul, Nat.zero_mul, ↓reduceIte, Nat.reduceEqDiff, Nat.reduceLT, Nat.reduceAdd, Nat.reduceLeDiff, reduceCtorEq, goInt, pairs, isConst, TI.isAgg, splice, boxS, Edp, dpv, Nat.beq_eq, ZV.val, List.any_cons, List.any_nil]
    exact downS_here (hok n q hn σ' k1 i1)
  · simp (disch := first | assumption | simp) only [↓sbD, sbU, tyB, Nat.reduceMul, Nat.reduceSub, Int.reduceEq, Int.reduceLT, Int.reduceLE, Int.reduceNe, Nat.reduceBneDiff, Nat.reduceBEq, decide_false, gt_iff_lt, Bool.or_self, Bool.false_eq_true, Nat.mul_one, Nat.one_mul, Nat.zero_mul, ↓reduceIte, Nat.reduceEqDiff, Nat.reduceLT, Nat.reduceAdd, Nat.reduceLeDiff, reduceCtorEq, goInt, pairs, isConst, TI.isAgg, splice, boxS, Edp, dpv, Nat.beq_eq, ZV.val, List.any_cons, List.any_nil]
    exact downS_here (hbad e q hn σ' k1 i1)
theorem specYU16 {a : Int} (hr : IsY σ r s p 0 a) (hp : p ≤ s.size) (hs : s.size ≤ 1000000000)
    (hok : ∀ n q, numR s p 2 = .ok (n, q) → ∀ σ', Kept σ [r] σ' [r] → IsY σ' r s q 0 a → Q (.int .i64 (n : Int)) σ')
    (hbad : ∀ e q, numR s p 2 = .error (e, q) → ∀ σ', Kept σ [r] σ' [r] → IsY σ' r s p (e : Int) (q : Int) → Q (.int .i64 0) σ') : CallS E B 78 [.pointer (some ⟨r, 0, none⟩)] σ Q := by
  refine call78 (by simp) ?_
  simp only [strip, bodyOf, Tryd.f78, getD_body, keepN, bareOp_mk, lessOp_mk, lapp_cons, lapp_nil, List.map_cons, List.map_nil, array_toList, ↓reduceIte, Nat.reduceEqDiff, Bool.false_eq_true]
  simp (disch := first | assumption | simp) only [↓sbD, sbU, tyB, Nat.reduceMul, Nat.reduceSub, Int.reduceEq, Int.reduceLT, Int.reduceLE, Int.reduceNe, Nat.reduceBneDiff, Nat.reduceBEq, decide_false, gt_iff_lt, Bool.or_self, Bool.false_eq_true, Nat.mul_one, Nat.one_mul, Nat.zero_mul, ↓reduceIte, Nat.reduceEqDiff, Nat.reduceLT, Nat.reduceAdd, Nat.reduceLeDiff, reduceCtorEq, goInt, pairs, isConst, TI.isAgg, splice, boxS, Edp, dpv, Nat.beq_eq, ZV.val, List.any_cons, List.any_nil]
  refine specYNum (k := 2) (by omega) hr hp hs (fun n q hn σ' k1 i1 => ?_) fun e q hn σ' k1 i1 => ?_
  · simp (disch := first | assumption | simp) only [↓sbD, sbU, tyB, Nat.reduceMul, Nat.reduceSub, Int.reduceEq, Int.reduceLT, Int.reduceLE, Int.reduceNe, Nat.reduceBneDiff, Nat.reduceBEq, decide_false, gt_iff_lt, Bool.or_self, Bool.false_eq_true, Nat.mul_one, Nat.one_mul, Nat.zero_mul, ↓reduceIte, Nat.reduceEqDiff, Nat.reduceLT, Nat.reduceAdd, Nat.reduceLeDiff, reduceCtorEq, goInt, pairs, isConst, TI.isAgg, splice, boxS, Edp, dpv, Nat.beq_eq, ZV.val, List.any_cons, List.any_nil]
    exact downS_here (hok n q hn σ' k1 i1)
  · simp (disch := first | assumption | simp) only [↓sbD, sbU, tyB, Nat.reduceMul, Nat.reduceSub, Int.reduceEq, Int.reduceLT, Int.reduceLE, Int.reduceNe, Nat.reduceBneDiff, Nat.reduceBEq, decide_false, gt_iff_lt, Bool.or_self, Bool.false_eq_true, Nat.mul_one, Nat.one_mul, Nat.zero_mul, ↓reduceIte, Nat.reduceEqDiff, Nat.reduceLT, Nat.reduceAdd, Nat.reduceLeDiff, reduceCtorEq, goInt, pairs, isConst, TI.isAgg, splice, boxS, Edp, dpv, Nat.beq_eq, ZV.val, List.any_cons, List.any_nil]
    exact downS_here (hbad e q hn σ' k1 i1)
theorem specYU32 {a : Int} (hr : IsY σ r s p 0 a) (hp : p ≤ s.size) (hs : s.size ≤ 1000000000)
    (hok : ∀ n q, numR s p 4 = .ok (n, q) → ∀ σ', Kept σ [r] σ' [r] → IsY σ' r s q 0 a → Q (.int .i64 (n : Int)) σ')
    (hbad : ∀ e q, numR s p 4 = .error (e, q) → ∀ σ', Kept σ [r] σ' [r] → IsY σ' r s p (e : Int) (q : Int) → Q (.int .i64 0) σ') : CallS E B 80 [.pointer (some ⟨r, 0, none⟩)] σ Q := by
  refine call80 (by simp) ?_
  simp only [strip, bodyOf, Tryd.f80, getD_body, keepN, bareOp_mk, lessOp_mk, lapp_cons, lapp_nil, List.map_cons, List.map_nil, array_toList, ↓reduceIte, Nat.reduceEqDiff, Bool.false_eq_true]
  simp (disch := first | assumption | simp) only [↓sbD, sbU, tyB, Nat.reduceMul, Nat.reduceSub, Int.reduceEq, Int.reduceLT, Int.reduceLE, Int.reduceNe, Nat.reduceBneDiff, Nat.reduceBEq, decide_false, gt_iff_lt, Bool.or_self, Bool.false_eq_true, Nat.mul_one, Nat.one_mul, Nat.zero_mul, ↓reduceIte, Nat.reduceEqDiff, Nat.reduceLT, Nat.reduceAdd, Nat.reduceLeDiff, reduceCtorEq, goInt, pairs, isConst, TI.isAgg, splice, boxS, Edp, dpv, Nat.beq_eq, ZV.val, List.any_cons, List.any_nil]
  refine specYNum (k := 4) (by omega) hr hp hs (fun n q hn σ' k1 i1 => ?_) fun e q hn σ' k1 i1 => ?_
  · simp (disch := first | assumption | simp) only [↓sbD, sbU, tyB, Nat.reduceMul, Nat.reduceSub, Int.reduceEq, Int.reduceLT, Int.reduceLE, Int.reduceNe, Nat.reduceBneDiff, Nat.reduceBEq, decide_false, gt_iff_lt, Bool.or_self, Bool.false_eq_true, Nat.mul_one, Nat.one_mul, Nat.zero_mul, ↓reduceIte, Nat.reduceEqDiff, Nat.reduceLT, Nat.reduceAdd, Nat.reduceLeDiff, reduceCtorEq, goInt, pairs, isConst, TI.isAgg, splice, boxS, Edp, dpv, Nat.beq_eq, ZV.val, List.any_cons, List.any_nil]
    exact downS_here (hok n q hn σ' k1 i1)
  · simp (disch := first | assumption | simp) only [↓sbD, sbU, tyB, Nat.reduceMul, Nat.reduceSub, Int.reduceEq, Int.reduceLT, Int.reduceLE, Int.reduceNe, Nat.reduceBneDiff, Nat.reduceBEq, decide_false, gt_iff_lt, Bool.or_self, Bool.false_eq_true, Nat.mul_one, Nat.one_mul, Nat.zero_mul, ↓reduceIte, Nat.reduceEqDiff, Nat.reduceLT, Nat.reduceAdd, Nat.reduceLeDiff, reduceCtorEq, goInt, pairs, isConst, TI.isAgg, splice, boxS, Edp, dpv, Nat.beq_eq, ZV.val, List.any_cons, List.any_nil]
    exact downS_here (hbad e q hn σ' k1 i1)
theorem specYU8E {e a : Int} (hr : IsY σ r s p e a) (he : e ≠ 0) (h : Q (.int .i64 0) σ) : CallS E B 79 [.pointer (some ⟨r, 0, none⟩)] σ Q := by
  refine call79 (by simp) ?_
  simp only [strip, bodyOf, Tryd.f79, getD_body, keepN, bareOp_mk, lessOp_mk, lapp_cons, lapp_nil, List.map_cons, List.map_nil, array_toList, ↓reduceIte, Nat.reduceEqDiff, Bool.false_eq_true]
  simp (disch := first | assumption | simp) only [↓sbD, sbU, tyB, Nat.reduceMul, Nat.reduceSub, Int.reduceEq, Int.reduceLT, Int.reduceLE, Int.reduceNe, Nat.reduceBneDiff, Nat.reduceBEq, decide_false, gt_iff_lt, Bool.or_self, Bool.false_eq_true, Nat.mul_one, Nat.one_mul, Nat.zero_mul, ↓reduceIte, Nat.reduceEqDiff, Nat.reduceLT, Nat.reduceAdd, Nat.reduceLeDiff, reduceCtorEq, goInt, pairs, isConst, TI.isAgg, splice, boxS, Edp, dpv, Nat.beq_eq, ZV.val, List.any_cons, List.any_nil]
  refine specYNumE (k := 1) hr he ?_
  simp (disch := first | assumption | simp) only [↓sbD, sbU, tyB, Nat.reduceMul, Nat.reduceSub, Int.reduceEq, Int.reduceLT, Int.reduceLE, Int.reduceNe, Nat.reduceBneDiff, Nat.reduceBEq, decide_false, gt_iff_lt, Bool.or_self, Bool.false_eq_true, Nat.mul_one, Nat.one_mul, Nat.zero_mul, ↓reduceIte, Nat.reduceEqDiff, Nat.reduceLT, Nat.reduceAdd, Nat.reduceLeDiff, reduceCtorEq, goInt, pairs, isConst, TI.isAgg, splice, boxS, Edp, dpv, Nat.beq_eq, ZV.val, List.any_cons, List.any_nil]
  exact downS_here h
theorem specYU16E {e a : Int} (hr : IsY σ r s p e a) (he : e ≠ 0) (h : Q (.int .i64 0) σ) : CallS E B 78 [.pointer (some ⟨r, 0, none⟩)] σ Q := by
  refine call78 (by simp) ?_
  simp only [strip, bodyOf, Tryd.f78, getD_body, keepN, bareOp_mk, lessOp_mk, lapp_cons, lapp_nil, List.map_cons, List.map_nil, array_toList, ↓reduceIte, Nat.reduceEqDiff, Bool.false_eq_true]
  simp (disch := first | assumption | simp) only [↓sbD, sbU, tyB, Nat.reduceMul, Nat.reduceSub, Int.reduceEq, Int.reduceLT, Int.reduceLE, Int.reduceNe, Nat.reduceBneDiff, Nat.reduceBEq, decide_false, gt_iff_lt, Bool.or_self, Bool.false_eq_true, Nat.mul_one, Nat.one_mul, Nat.zero_mul, ↓reduceIte, Nat.reduceEqDiff, Nat.reduceLT, Nat.reduceAdd, Nat.reduceLeDiff, reduceCtorEq, goInt, pairs, isConst, TI.isAgg, splice, boxS, Edp, dpv, Nat.beq_eq, ZV.val, List.any_cons, List.any_nil]
  refine specYNumE (k := 2) hr he ?_
  simp (disch := first | assumption | simp) only [↓sbD, sbU, tyB, Nat.reduceMul, Nat.reduceSub, Int.reduceEq, Int.reduceLT, Int.reduceLE, Int.reduceNe, Nat.reduceBneDiff, Nat.reduceBEq, decide_false, gt_iff_lt, Bool.or_self, Bool.false_eq_true, Nat.mul_one, Nat.one_mul, Nat.zero_mul, ↓reduceIte, Nat.reduceEqDiff, Nat.reduceLT, Nat.reduceAdd, Nat.reduceLeDiff, reduceCtorEq, goInt, pairs, isConst, TI.isAgg, splice, boxS, Edp, dpv, Nat.beq_eq, ZV.val, List.any_cons, List.any_nil]
  exact downS_here h
theorem specYU32E {e a : Int} (hr : IsY σ r s p e a) (he : e ≠ 0) (h : Q (.int .i64 0) σ) : CallS E B 80 [.pointer (some ⟨r, 0, none⟩)] σ Q := by
  refine call80 (by simp) ?_
  simp only [strip, bodyOf, Tryd.f80, getD_body, keepN, bareOp_mk, lessOp_mk, lapp_cons, lapp_nil, List.map_cons, List.map_nil, array_toList, ↓reduceIte, Nat.reduceEqDiff, Bool.false_eq_true]
  simp (disch := first | assumption | simp) only [↓sbD, sbU, tyB, Nat.reduceMul, Nat.reduceSub, Int.reduceEq, Int.reduceLT, Int.reduceLE, Int.reduceNe, Nat.reduceBneDiff, Nat.reduceBEq, decide_false, gt_iff_lt, Bool.or_self, Bool.false_eq_true, Nat.mul_one, Nat.one_mul, Nat.zero_mul, ↓reduceIte, Nat.reduceEqDiff, Nat.reduceLT, Nat.reduceAdd, Nat.reduceLeDiff, reduceCtorEq, goInt, pairs, isConst, TI.isAgg, splice, boxS, Edp, dpv, Nat.beq_eq, ZV.val, List.any_cons, List.any_nil]
  refine specYNumE (k := 4) hr he ?_
  simp (disch := first | assumption | simp) only [↓sbD, sbU, tyB, Nat.reduceMul, Nat.reduceSub, Int.reduceEq, Int.reduceLT, Int.reduceLE, Int.reduceNe, Nat.reduceBneDiff, Nat.reduceBEq, decide_false, gt_iff_lt, Bool.or_self, Bool.false_eq_true, Nat.mul_one, Nat.one_mul, Nat.zero_mul, ↓reduceIte, Nat.reduceEqDiff, Nat.reduceLT, Nat.reduceAdd, Nat.reduceLeDiff, reduceCtorEq, goInt, pairs, isConst, TI.isAgg, splice, boxS, Edp, dpv, Nat.beq_eq, ZV.val, List.any_cons, List.any_nil]
  exact downS_here h
theorem specYRaw {n a : Int} (hr : IsY σ r s p 0 a) (hp : p ≤ s.size) (hs : s.size ≤ 1000000000)
    (hok : ∀ v q, rawR s p n = .ok (v, q) → ∀ σ', Kept σ [r] σ' [r] → IsY σ' r s q 0 a → Q (.string v) σ')
    (hbad : ∀ k q, rawR s p n = .error (k, q) → ∀ σ', Kept σ [r] σ' [r] → IsY σ' r s p (k : Int) (q : Int) → Q (.string emp) σ') : CallS E B 74 [.pointer (some ⟨r, 0, none⟩), .int .i64 n] σ Q := by
  refine call74 (by simp) ?_
  simp only [strip, bodyOf, Tryd.f74, getD_body, keepN, bareOp_mk, lessOp_mk, lapp_cons, lapp_nil, List.map_cons, List.map_nil, array_toList, ↓reduceIte, Nat.reduceEqDiff, Bool.false_eq_true]
  simp (disch := first | assumption | simp) only [↓sbD, sbU, tyB, Nat.reduceMul, Nat.reduceSub, Int.reduceEq, Int.reduceLT, Int.reduceLE, Int.reduceNe, Nat.reduceBneDiff, Nat.reduceBEq, decide_false, gt_iff_lt, Bool.or_self, Bool.false_eq_true, Nat.mul_one, Nat.one_mul, Nat.zero_mul, ↓reduceIte, Nat.reduceEqDiff, Nat.reduceLT, Nat.reduceAdd, Nat.reduceLeDiff, reduceCtorEq, goInt, pairs, isConst, TI.isAgg, splice, boxS, Edp, dpv, Nat.beq_eq, ZV.val, List.any_cons, List.any_nil]
  refine specYTake hr hp hs (fun v q hv σ' k1 i1 => ?_) fun e q hv σ' k1 i1 => ?_
  · simp (disch := first | assumption | simp) only [↓sbD, sbU, tyB, Nat.reduceMul, Nat.reduceSub, Int.reduceEq, Int.reduceLT, Int.reduceLE, Int.reduceNe, Nat.reduceBneDiff, Nat.reduceBEq, decide_false, gt_iff_lt, Bool.or_self, Bool.false_eq_true, Nat.mul_one, Nat.one_mul, Nat.zero_mul, ↓reduceIte, Nat.reduceEqDiff, Nat.reduceLT, Nat.reduceAdd, Nat.reduceLeDiff, reduceCtorEq, goInt, pairs, isConst, TI.isAgg, splice, boxS, Edp, dpv, Nat.beq_eq, ZV.val, List.any_cons, List.any_nil]
    exact downS_here (hok v q hv σ' k1 i1)
  · simp (disch := first | assumption | simp) only [↓sbD, sbU, tyB, Nat.reduceMul, Nat.reduceSub, Int.reduceEq, Int.reduceLT, Int.reduceLE, Int.reduceNe, Nat.reduceBneDiff, Nat.reduceBEq, decide_false, gt_iff_lt, Bool.or_self, Bool.false_eq_true, Nat.mul_one, Nat.one_mul, Nat.zero_mul, ↓reduceIte, Nat.reduceEqDiff, Nat.reduceLT, Nat.reduceAdd, Nat.reduceLeDiff, reduceCtorEq, goInt, pairs, isConst, TI.isAgg, splice, boxS, Edp, dpv, Nat.beq_eq, ZV.val, List.any_cons, List.any_nil]
    exact downS_here (hbad e q hv σ' k1 i1)
theorem specYRawE {n e a : Int} (hr : IsY σ r s p e a) (he : e ≠ 0) (h : Q (.string emp) σ) : CallS E B 74 [.pointer (some ⟨r, 0, none⟩), .int .i64 n] σ Q := by
  refine call74 (by simp) ?_
  simp only [strip, bodyOf, Tryd.f74, getD_body, keepN, bareOp_mk, lessOp_mk, lapp_cons, lapp_nil, List.map_cons, List.map_nil, array_toList, ↓reduceIte, Nat.reduceEqDiff, Bool.false_eq_true]
  simp (disch := first | assumption | simp) only [↓sbD, sbU, tyB, Nat.reduceMul, Nat.reduceSub, Int.reduceEq, Int.reduceLT, Int.reduceLE, Int.reduceNe, Nat.reduceBneDiff, Nat.reduceBEq, decide_false, gt_iff_lt, Bool.or_self, Bool.false_eq_true, Nat.mul_one, Nat.one_mul, Nat.zero_mul, ↓reduceIte, Nat.reduceEqDiff, Nat.reduceLT, Nat.reduceAdd, Nat.reduceLeDiff, reduceCtorEq, goInt, pairs, isConst, TI.isAgg, splice, boxS, Edp, dpv, Nat.beq_eq, ZV.val, List.any_cons, List.any_nil]
  refine specYTakeE hr he ?_
  simp (disch := first | assumption | simp) only [↓sbD, sbU, tyB, Nat.reduceMul, Nat.reduceSub, Int.reduceEq, Int.reduceLT, Int.reduceLE, Int.reduceNe, Nat.reduceBneDiff, Nat.reduceBEq, decide_false, gt_iff_lt, Bool.or_self, Bool.false_eq_true, Nat.mul_one, Nat.one_mul, Nat.zero_mul, ↓reduceIte, Nat.reduceEqDiff, Nat.reduceLT, Nat.reduceAdd, Nat.reduceLeDiff, reduceCtorEq, goInt, pairs, isConst, TI.isAgg, splice, boxS, Edp, dpv, Nat.beq_eq, ZV.val, List.any_cons, List.any_nil]
  exact downS_here h
theorem specYBin {a : Int} (hr : IsY σ r s p 0 a) (hp : p ≤ s.size) (hs : s.size ≤ 1000000000)
    (hok : ∀ v q, binR s p = .ok (v, q) → ∀ σ', Kept σ [r] σ' [r] → IsY σ' r s q 0 a → Q (.string v) σ')
    (hbad : ∀ k q, binR s p = .error (k, q) → ∀ σ', Kept σ [r] σ' [r] → IsY σ' r s p (k : Int) (q : Int) → Q (.string emp) σ') : CallS E B 81 [.pointer (some ⟨r, 0, none⟩)] σ Q := by
  unfold binR at hok hbad
  have hr' := hr
  unfold IsY at hr'
  refine call81 (by simp) ?_
  simp only [strip, bodyOf, Tryd.f81, getD_body, keepN, bareOp_mk, lessOp_mk, lapp_cons, lapp_nil, List.map_cons, List.map_nil, array_toList, ↓reduceIte, Nat.reduceEqDiff, Bool.false_eq_true]
  simp (disch := first | assumption | simp) only [↓sbD, sbU, tyB, Nat.reduceMul, Nat.reduceSub, Int.reduceEq, Int.reduceLT, Int.reduceLE, Int.reduceNe, Nat.reduceBneDiff, Nat.reduceBEq, decide_false, gt_iff_lt, Bool.or_self, Bool.false_eq_true, Nat.mul_one, Nat.one_mul, Nat.zero_mul, ↓reduceIte, Nat.reduceEqDiff, Nat.reduceLT, Nat.reduceAdd, Nat.reduceLeDiff, reduceCtorEq, goInt, pairs, isConst, TI.isAgg, splice, boxS, Edp, dpv, Nat.beq_eq, ZV.val, List.any_cons, List.any_nil, hr']
  refine specYU16 hr hp hs (fun n q hn σ1 k1 i1 => ?_) fun e q hn σ1 k1 i1 => ?_
  · rw [hn] at hok hbad
    have hq := numR_le hn
    simp (disch := first | assumption | simp) only [↓sbD, sbU, tyB, Nat.reduceMul, Nat.reduceSub, Int.reduceEq, Int.reduceLT, Int.reduceLE, Int.reduceNe, Nat.reduceBneDiff, Nat.reduceBEq, decide_false, gt_iff_lt, Bool.or_self, Bool.false_eq_true, Nat.mul_one, Nat.one_mul, Nat.zero_mul, ↓reduceIte, Nat.reduceEqDiff, Nat.reduceLT, Nat.reduceAdd, Nat.reduceLeDiff, reduceCtorEq, goInt, pairs, isConst, TI.isAgg, splice, boxS, Edp, dpv, Nat.beq_eq, ZV.val, List.any_cons, List.any_nil]
    refine specYRaw i1 hq.2 hs (fun v q2 hv σ2 k2 i2 => ?_) fun e q2 hv σ2 k2 i2 => ?_
    · have i2' := i2
      unfold IsY at i2'
      simp (disch := first | assumption | simp) only [↓sbD, sbU, tyB, Nat.reduceMul, Nat.reduceSub, Int.reduceEq, Int.reduceLT, Int.reduceLE, Int.reduceNe, Nat.reduceBneDiff, Nat.reduceBEq, decide_false, gt_iff_lt, Bool.or_self, Bool.false_eq_true, Nat.mul_one, Nat.one_mul, Nat.zero_mul, ↓reduceIte, Nat.reduceEqDiff, Nat.reduceLT, Nat.reduceAdd, Nat.reduceLeDiff, reduceCtorEq, goInt, pairs, isConst, TI.isAgg, splice, boxS, Edp, dpv, Nat.beq_eq, ZV.val, List.any_cons, List.any_nil, i2']
      exact downS_here (hok v q2 hv _ (k1.trans k2) i2)
    · have hk0 : ¬ (e : Int) = 0 := by have := rawR_k hv; omega
      have i2' := i2
      unfold IsY at i2'
      simp (disch := first | assumption | simp) only [↓sbD, sbU, tyB, Nat.reduceMul, Nat.reduceSub, Int.reduceEq, Int.reduceLT, Int.reduceLE, Int.reduceNe, Nat.reduceBneDiff, Nat.reduceBEq, decide_false, gt_iff_lt, Bool.or_self, Bool.false_eq_true, Nat.mul_one, Nat.one_mul, Nat.zero_mul, ↓reduceIte, Nat.reduceEqDiff, Nat.reduceLT, Nat.reduceAdd, Nat.reduceLeDiff, reduceCtorEq, goInt, pairs, isConst, TI.isAgg, splice, boxS, Edp, dpv, Nat.beq_eq, ZV.val, List.any_cons, List.any_nil, i2', hk0]
      exact downS_here (hbad e q2 hv _ ((k1.trans k2).trans (Kept.set (by simp))) (AHeap.get_set_same _ _ _))
  · rw [hn] at hbad
    have hk0 : ¬ (e : Int) = 0 := by have := numR_k hn; omega
    simp (disch := first | assumption | simp) only [↓sbD, sbU, tyB, Nat.reduceMul, Nat.reduceSub, Int.reduceEq, Int.reduceLT, Int.reduceLE, Int.reduceNe, Nat.reduceBneDiff, Nat.reduceBEq, decide_false, gt_iff_lt, Bool.or_self, Bool.false_eq_true, Nat.mul_one, Nat.one_mul, Nat.zero_mul, ↓reduceIte, Nat.reduceEqDiff, Nat.reduceLT, Nat.reduceAdd, Nat.reduceLeDiff, reduceCtorEq, goInt, pairs, isConst, TI.isAgg, splice, boxS, Edp, dpv, Nat.beq_eq, ZV.val, List.any_cons, List.any_nil]
    refine specYRawE i1 hk0 ?_
    have i1' := i1
    unfold IsY at i1'
    simp (disch := first | assumption | simp) only [↓sbD, sbU, tyB, Nat.reduceMul, Nat.reduceSub, Int.reduceEq, Int.reduceLT, Int.reduceLE, Int.reduceNe, Nat.reduceBneDiff, Nat.reduceBEq, decide_false, gt_iff_lt, Bool.or_self, Bool.false_eq_true, Nat.mul_one, Nat.one_mul, Nat.zero_mul, ↓reduceIte, Nat.reduceEqDiff, Nat.reduceLT, Nat.reduceAdd, Nat.reduceLeDiff, reduceCtorEq, goInt, pairs, isConst, TI.isAgg, splice, boxS, Edp, dpv, Nat.beq_eq, ZV.val, List.any_cons, List.any_nil, i1', hk0]
    exact downS_here (hbad e q rfl _ (k1.trans (Kept.set (by simp))) (AHeap.get_set_same _ _ _))
theorem specYBinE {e a : Int} (hr : IsY σ r s p e a) (he : e ≠ 0) (h : ∀ σ', Kept σ [r] σ' [r] → IsY σ' r s p e a → Q (.string emp) σ') : CallS E B 81 [.pointer (some ⟨r, 0, none⟩)] σ Q := by
  have hr' := hr
  unfold IsY at hr'
  refine call81 (by simp) ?_
  simp only [strip, bodyOf, Tryd.f81, getD_body, keepN, bareOp_mk, lessOp_mk, lapp_cons, lapp_nil, List.map_cons, List.map_nil, array_toList, ↓reduceIte, Nat.reduceEqDiff, Bool.false_eq_true]
  simp (disch := first | assumption | simp) only [↓sbD, sbU, tyB, Nat.reduceMul, Nat.reduceSub, Int.reduceEq, Int.reduceLT, Int.reduceLE, Int.reduceNe, Nat.reduceBneDiff, Nat.reduceBEq, decide_false, gt_iff_lt, Bool.or_self, Bool.false_eq_true, Nat.mul_one, Nat.one_mul, Nat.zero_mul, ↓reduceIte, Nat.reduceEqDiff, Nat.reduceLT, Nat.reduceAdd, Nat.reduceLeDiff, reduceCtorEq, goInt, pairs, isConst, TI.isAgg, splice, boxS, Edp, dpv, Nat.beq_eq, ZV.val, List.any_cons, List.any_nil, hr']
  refine specYU16E hr he ?_
  simp (disch := first | assumption | simp) only [↓sbD, sbU, tyB, Nat.reduceMul, Nat.reduceSub, Int.reduceEq, Int.reduceLT, Int.reduceLE, Int.reduceNe, Nat.reduceBneDiff, Nat.reduceBEq, decide_false, gt_iff_lt, Bool.or_self, Bool.false_eq_true, Nat.mul_one, Nat.one_mul, Nat.zero_mul, ↓reduceIte, Nat.reduceEqDiff, Nat.reduceLT, Nat.reduceAdd, Nat.reduceLeDiff, reduceCtorEq, goInt, pairs, isConst, TI.isAgg, splice, boxS, Edp, dpv, Nat.beq_eq, ZV.val, List.any_cons, List.any_nil]
  refine specYRawE hr he ?_
  simp (disch := first | assumption | simp) only [↓sbD, sbU, tyB, Nat.reduceMul, Nat.reduceSub, Int.reduceEq, Int.reduceLT, Int.reduceLE, Int.reduceNe, Nat.reduceBneDiff, Nat.reduceBEq, decide_false, gt_iff_lt, Bool.or_self, Bool.false_eq_true, Nat.mul_one, Nat.one_mul, Nat.zero_mul, ↓reduceIte, Nat.reduceEqDiff, Nat.reduceLT, Nat.reduceAdd, Nat.reduceLeDiff, reduceCtorEq, goInt, pairs, isConst, TI.isAgg, splice, boxS, Edp, dpv, Nat.beq_eq, ZV.val, List.any_cons, List.any_nil, hr', he]
  exact downS_here (h _ (Kept.set (by simp)) (AHeap.get_set_same _ _ _))
theorem specYDone {e a : Int} (hr : IsY σ r s p e a) (hend : e = 0 → p = s.size → Q (.tuple #[.int .i64 0, .int .i64 a]) σ) (hmore : e = 0 → p < s.size → Q (.tuple #[.int .i64 2, .int .i64 (p : Int)]) σ) (hbad : e ≠ 0 → Q (.tuple #[.int .i64 e, .int .i64 a]) σ) (hp : p ≤ s.size) : CallS E B 123 [.pointer (some ⟨r, 0, none⟩)] σ Q := by
  unfold IsY at hr
  refine call123 (by simp) ?_
  simp only [strip, bodyOf, Tryd.f123, getD_body, keepN, bareOp_mk, lessOp_mk, lapp_cons, lapp_nil, List.map_cons, List.map_nil, array_toList, ↓reduceIte, Nat.reduceEqDiff, Bool.false_eq_true]
  by_cases he : e = 0
  · subst he
    by_cases hlt : (p : Int) < (s.size : Int)
    · simp (disch := first | assumption | simp) only [↓sbD, sbU, tyB, Nat.reduceMul, Nat.reduceSub, Int.reduceEq, Int.reduceLT, Int.reduceLE, Int.reduceNe, Nat.reduceBneDiff, Nat.reduceBEq, decide_false, gt_iff_lt, Bool.or_self, Bool.false_eq_true, Nat.mul_one, Nat.one_mul, Nat.zero_mul, ↓reduceIte, Nat.reduceEqDiff, Nat.reduceLT, Nat.reduceAdd, Nat.reduceLeDiff, reduceCtorEq, goInt, pairs, isConst, TI.isAgg, splice, boxS, Edp, dpv, Nat.beq_eq, ZV.val, List.any_cons, List.any_nil, hr, hlt]
      exact downS_here (hmore rfl (by omega))
    · simp (disch := first | assumption | simp) only [↓sbD, sbU, tyB, Nat.reduceMul, Nat.reduceSub, Int.reduceEq, Int.reduceLT, Int.reduceLE, Int.reduceNe, Nat.reduceBneDiff, Nat.reduceBEq, decide_false, gt_iff_lt, Bool.or_self, Bool.false_eq_true, Nat.mul_one, Nat.one_mul, Nat.zero_mul, ↓reduceIte, Nat.reduceEqDiff, Nat.reduceLT, Nat.reduceAdd, Nat.reduceLeDiff, reduceCtorEq, goInt, pairs, isConst, TI.isAgg, splice, boxS, Edp, dpv, Nat.beq_eq, ZV.val, List.any_cons, List.any_nil, hr, hlt]
      exact downS_here (hend rfl (by omega))
  · simp (disch := first | assumption | simp) only [↓sbD, sbU, tyB, Nat.reduceMul, Nat.reduceSub, Int.reduceEq, Int.reduceLT, Int.reduceLE, Int.reduceNe, Nat.reduceBneDiff, Nat.reduceBEq, decide_false, gt_iff_lt, Bool.or_self, Bool.false_eq_true, Nat.mul_one, Nat.one_mul, Nat.zero_mul, ↓reduceIte, Nat.reduceEqDiff, Nat.reduceLT, Nat.reduceAdd, Nat.reduceLeDiff, reduceCtorEq, goInt, pairs, isConst, TI.isAgg, splice, boxS, Edp, dpv, Nat.beq_eq, ZV.val, List.any_cons, List.any_nil, hr, he]
    exact downS_here (hbad he)
end
end Go.Proofs.YtccimdfmddomaaaDoor.AbsA
namespace Go.Proofs.YtccimdfmddomaaaDoor.AbsA
open Go AbsYtccimdfmddomaaaDoor Abs
set_option maxRecDepth 100000
set_option maxHeartbeats 4000000
set_option linter.unusedSimpArgs false
set_option linter.unusedVariables false
theorem typed_s {H : AHeap} {d : Nat} {v : Value} (h : ArgTyped E H d 9 v) : ∃ n : ByteArray, v = .string n := by
  obtain ⟨xs, g1, rfl⟩ := h.one ty9 rfl
  obtain ⟨n, g2, _⟩ := typed_str g1
  subst g2
  exact ⟨n, rfl⟩
end Go.Proofs.YtccimdfmddomaaaDoor.AbsA
namespace Go.Proofs.YtccimdfmddomaaaDoor.AbsA
open Go AbsYtccimdfmddomaaaDoor Abs
set_option maxRecDepth 100000
set_option maxHeartbeats 2000000
set_option linter.unusedSimpArgs false
set_option linter.unusedVariables false
attribute [local irreducible] afterS afterOpS opSK OpsS TrS CodeS condS condW thenS thenQ guardS guardTS outS drawS trSK consS
/-- bounds: the least and the greatest of each -/
def bndL : List (Int × Int) := [(1, 8), (64, 65536), (1, 65535), (0, 65535), (0, 65536), (0, 65536), (64, 1048576), (0, 16777216), (1, 8), (0, 65536), (0, 65535), (0, 4294967295), (0, 4294967295)]
/-- the first that is out of its bounds -/
def cfgBad (i : Nat) : List Int → List (Int × Int) → Option Nat
  | x :: l, (a, b) :: m => if x < a ∨ b < x then some i else cfgBad (i + 1) l m
  | _, _ => none
def cfgC (l : List Int) : List Value := l.map (.int .i64)
def bndC (x : Int × Int × Int) : List Value := [.int .i64 x.1, .int .i64 x.2.1, .int .i64 x.2.2]
theorem cfgBad_at : ∀ {l : List Int} {m : List (Int × Int)} {k i : Nat} (h1 : i < l.length) (h2 : i < m.length), cfgBad (k + i) (l.drop i) (m.drop i) = if l[i] < (m[i]).1 ∨ (m[i]).2 < l[i] then some (k + i) else cfgBad (k + (i + 1)) (l.drop (i + 1)) (m.drop (i + 1)) := by
  intro l m k i h1 h2
  rw [List.drop_eq_getElem_cons h1, List.drop_eq_getElem_cons h2]
  rfl
section
variable {σ : AHeap} {Q : Value → AHeap → Prop}
theorem dpC : dp 23 = false := rfl
theorem DLb.len {v : Value} {l : List (Int × Int × Int)} (h : DL bndC 3 v l) (σ : AHeap) : abuiltin E σ .len [162] [v] = some (.int .i64 (l.length : Int), σ) := by
  rcases h with ⟨rfl, rfl⟩ | ⟨m, rfl⟩ <;> rfl
theorem DLb.at {v : Value} {l : List (Int × Int × Int)} (h : DL bndC 3 v l) {i : Nat} (hi : i < l.length) : aindexAddr E 162 v (.int .i64 (i : Int)) = some (dptr (bndC l[i] ++ (l.drop (i + 1)).flatMap bndC)) := by
  rcases h with ⟨rfl, rfl⟩ | ⟨m, rfl⟩
  · simp at hi
  · rw [ia_dsl hi, drop_flat (enc := bndC) (sz := 3) (fun a => rfl) hi]; rfl
def bnd3 (l : List Int) : List (Int × Int × Int) := l.zip bndL
theorem specBounds {l : List Int} (hl : l.length = 13) (h : ∀ v, DL bndC 3 v (bnd3 l) → Q v σ) : CallS E B 114 [.agg ⟨cfgC l⟩] σ Q := by
  match l, hl with
  | [x0, x1, x2, x3, x4, x5, x6, x7, x8, x9, x10, x11, x12], _ =>
    simp only [cfgC, List.map_cons, List.map_nil]
    refine call114 (by simp) ?_
    simp only [strip, bodyOf, Tryd.f114, getD_body, keepN, bareOp_mk, lessOp_mk, lapp_cons, lapp_nil, List.map_cons, List.map_nil, array_toList, ↓reduceIte, Nat.reduceEqDiff, Bool.false_eq_true]
    simp (disch := first | assumption | simp) only [↓sbD, sbU, tyB, Nat.reduceMul, Nat.reduceSub, Int.reduceEq, Int.reduceLT, Int.reduceLE, Int.reduceNe, Nat.reduceBneDiff, Nat.reduceBEq, decide_false, gt_iff_lt, Bool.or_self, Bool.false_eq_true, Nat.mul_one, Nat.one_mul, Nat.zero_mul, ↓reduceIte, Nat.reduceEqDiff, Nat.reduceLT, Nat.reduceAdd, Nat.reduceLeDiff, reduceCtorEq, goInt, pairs, isConst, TI.isAgg, splice, boxS, Edp, dpv, Nat.beq_eq, ZV.val, List.any_cons, List.any_nil, AS_new, dpC]
    intro b hb
    exact downS_le (Le.new hb) (h _ (.inr ⟨1, rfl⟩))
theorem zeBd : azero E 165 = some [.int .i64 0, .int .i64 0, .int .i64 0] := rfl
theorem specTCheck {l : List Int} (hl : l.length = 13) (hok : cfgBad 0 l bndL = none → Q .nilIface σ) (hbad : ∀ i : Nat, cfgBad 0 l bndL = some i → Q (fv 131 (i : Int) (sent 7)) σ) : CallS E B 55 [.agg ⟨cfgC l⟩] σ Q := by
  have hbl : bndL.length = 13 := rfl
  refine call55 (by simp) ?_
  simp only [strip, bodyOf, Tryd.f55, getD_body, keepN, bareOp_mk, lessOp_mk, lapp_cons, lapp_nil, List.map_cons, List.map_nil, array_toList, ↓reduceIte, Nat.reduceEqDiff, Bool.false_eq_true]
  have hcc : ∃ x0 x1 x2 x3 x4 x5 x6 x7 x8 x9 x10 x11 x12 : Int, l = [x0, x1, x2, x3, x4, x5, x6, x7, x8, x9, x10, x11, x12] := by
    match l, hl with
    | [x0, x1, x2, x3, x4, x5, x6, x7, x8, x9, x10, x11, x12], _ => exact ⟨_, _, _, _, _, _, _, _, _, _, _, _, _, rfl⟩
  have hzc : cfgC l = cfgC l := rfl
  obtain ⟨x0, x1, x2, x3, x4, x5, x6, x7, x8, x9, x10, x11, x12, he⟩ := hcc
  have hcl : cfgC l = [.int .i64 x0, .int .i64 x1, .int .i64 x2, .int .i64 x3, .int .i64 x4, .int .i64 x5, .int .i64 x6, .int .i64 x7, .int .i64 x8, .int .i64 x9, .int .i64 x10, .int .i64 x11, .int .i64 x12] := by rw [he]; rfl
  rw [hcl]
  simp (disch := first | assumption | simp) only [↓sbD, sbU, tyB, Nat.reduceMul, Nat.reduceSub, Int.reduceEq, Int.reduceLT, Int.reduceLE, Int.reduceNe, Nat.reduceBneDiff, Nat.reduceBEq, decide_false, gt_iff_lt, Bool.or_self, Bool.false_eq_true, Nat.mul_one, Nat.one_mul, Nat.zero_mul, ↓reduceIte, Nat.reduceEqDiff, Nat.reduceLT, Nat.reduceAdd, Nat.reduceLeDiff, reduceCtorEq, goInt, pairs, isConst, TI.isAgg, splice, boxS, Edp, dpv, Nat.beq_eq, ZV.val, List.any_cons, List.any_nil, AS_new, dpC]
  intro b hb
  rw [← hcl]
  refine specBounds hl fun v hv => ?_
  have hlen := DLb.len hv
  have hbz : (bnd3 l).length = 13 := by unfold bnd3; rw [List.length_zip, hl, hbl]; rfl
  have h13 : (((bnd3 l).length : Nat) : Int) = 13 := by rw [hbz]; rfl
  simp (disch := first | assumption | simp) only [↓sbD, sbU, tyB, Nat.reduceMul, Nat.reduceSub, Int.reduceEq, Int.reduceLT, Int.reduceLE, Int.reduceNe, Nat.reduceBneDiff, Nat.reduceBEq, decide_false, gt_iff_lt, Bool.or_self, Bool.false_eq_true, Nat.mul_one, Nat.one_mul, Nat.zero_mul, ↓reduceIte, Nat.reduceEqDiff, Nat.reduceLT, Nat.reduceAdd, Nat.reduceLeDiff, reduceCtorEq, goInt, pairs, isConst, TI.isAgg, splice, boxS, Edp, dpv, Nat.beq_eq, ZV.val, List.any_cons, List.any_nil, hlen, h13]
  generalize hσ1 : AHeap.set σ b _ = σ1
  have hle : Le σ σ1 := by rw [← hσ1]; exact Le.new hb
  clear hσ1
  refine S_loop (fun m f σ' => σ' = σ1 ∧ ∃ i : Nat, m + i = 13 ∧ f 8 = .int .i64 i ∧ cfgBad (0 + i) (l.drop i) (bndL.drop i) = cfgBad 0 l bndL) 13 (Le.refl _) ⟨rfl, 0, rfl, by simp (disch := first | assumption | simp) only [↓sbD, sbU, tyB, Nat.reduceMul, Nat.reduceSub, Int.reduceEq, Int.reduceLT, Int.reduceLE, Int.reduceNe, Nat.reduceBneDiff, Nat.reduceBEq, decide_false, gt_iff_lt, Bool.or_self, Bool.false_eq_true, Nat.mul_one, Nat.one_mul, Nat.zero_mul, ↓reduceIte, Nat.reduceEqDiff, Nat.reduceLT, Nat.reduceAdd, Nat.reduceLeDiff, reduceCtorEq, goInt, pairs, isConst, TI.isAgg, splice, boxS, Edp, dpv, Nat.beq_eq, ZV.val, List.any_cons, List.any_nil]; rfl, rfl⟩ ?_
  rintro m f σ' ⟨rfl, i, hm, f8, hcb⟩ hf
  have f6 := hf 6 (by decide) (notMem_wr (by kernel_rfl))
  have f7 := hf 7 (by decide) (notMem_wr (by kernel_rfl))
  simp (disch := first | assumption | simp) only [↓sbD, sbU, tyB, Nat.reduceMul, Nat.reduceSub, Int.reduceEq, Int.reduceLT, Int.reduceLE, Int.reduceNe, Nat.reduceBneDiff, Nat.reduceBEq, decide_false, gt_iff_lt, Bool.or_self, Bool.false_eq_true, Nat.mul_one, Nat.one_mul, Nat.zero_mul, ↓reduceIte, Nat.reduceEqDiff, Nat.reduceLT, Nat.reduceAdd, Nat.reduceLeDiff, reduceCtorEq, goInt, pairs, isConst, TI.isAgg, splice, boxS, Edp, dpv, Nat.beq_eq, ZV.val, List.any_cons, List.any_nil] at f6 f7
  clear hf
  by_cases hi : (i : Int) < 13
  · have hi1 : i < l.length := by omega
    have hi2 : i < bndL.length := by omega
    have hi3 : i < (bnd3 l).length := by omega
    rw [cfgBad_at hi1 hi2] at hcb
    have hia := DLb.at hv hi3
    have hz : (bnd3 l)[i] = (l[i], bndL[i]) := List.getElem_zip
    rw [hz] at hia
    generalize l[i] = x at hia hcb
    generalize hbi : bndL[i] = ab at hia hcb
    obtain ⟨lo, hiB⟩ := ab
    have hw := wrap_suc (n := i) (by omega)
    have hac : bndC (x, lo, hiB) = [.int .i64 x, .int .i64 lo, .int .i64 hiB] := rfl
    simp only [Nat.zero_add] at hcb
    by_cases hx1 : x < lo
    · rw [if_pos (.inl hx1)] at hcb
      simp (disch := first | assumption | simp) only [↓sbD, sbU, tyB, Nat.reduceMul, Nat.reduceSub, Int.reduceEq, Int.reduceLT, Int.reduceLE, Int.reduceNe, Nat.reduceBneDiff, Nat.reduceBEq, decide_false, gt_iff_lt, Bool.or_self, Bool.false_eq_true, Nat.mul_one, Nat.one_mul, Nat.zero_mul, ↓reduceIte, Nat.reduceEqDiff, Nat.reduceLT, Nat.reduceAdd, Nat.reduceLeDiff, reduceCtorEq, goInt, pairs, isConst, TI.isAgg, splice, boxS, Edp, dpv, Nat.beq_eq, ZV.val, List.any_cons, List.any_nil, f6, f7, f8, hi, hia, hac, AS_new, zeBd, hx1, gk7]
      intro c hc
      refine specNew (n := 7) ⟨by omega, by omega⟩ ?_
      simp (disch := first | assumption | simp) only [↓sbD, sbU, tyB, Nat.reduceMul, Nat.reduceSub, Int.reduceEq, Int.reduceLT, Int.reduceLE, Int.reduceNe, Nat.reduceBneDiff, Nat.reduceBEq, decide_false, gt_iff_lt, Bool.or_self, Bool.false_eq_true, Nat.mul_one, Nat.one_mul, Nat.zero_mul, ↓reduceIte, Nat.reduceEqDiff, Nat.reduceLT, Nat.reduceAdd, Nat.reduceLeDiff, reduceCtorEq, goInt, pairs, isConst, TI.isAgg, splice, boxS, Edp, dpv, Nat.beq_eq, ZV.val, List.any_cons, List.any_nil]
      exact downS_le (Le.trans hle (Le.new' (Le.new hc) hc)) (hbad i hcb.symm)
    by_cases hx2 : hiB < x
    · rw [if_pos (.inr hx2)] at hcb
      simp (disch := first | assumption | simp) only [↓sbD, sbU, tyB, Nat.reduceMul, Nat.reduceSub, Int.reduceEq, Int.reduceLT, Int.reduceLE, Int.reduceNe, Nat.reduceBneDiff, Nat.reduceBEq, decide_false, gt_iff_lt, Bool.or_self, Bool.false_eq_true, Nat.mul_one, Nat.one_mul, Nat.zero_mul, ↓reduceIte, Nat.reduceEqDiff, Nat.reduceLT, Nat.reduceAdd, Nat.reduceLeDiff, reduceCtorEq, goInt, pairs, isConst, TI.isAgg, splice, boxS, Edp, dpv, Nat.beq_eq, ZV.val, List.any_cons, List.any_nil, f6, f7, f8, hi, hia, hac, AS_new, zeBd, hx1, hx2, gk7]
      intro c hc
      refine specNew (n := 7) ⟨by omega, by omega⟩ ?_
      simp (disch := first | assumption | simp) only [↓sbD, sbU, tyB, Nat.reduceMul, Nat.reduceSub, Int.reduceEq, Int.reduceLT, Int.reduceLE, Int.reduceNe, Nat.reduceBneDiff, Nat.reduceBEq, decide_false, gt_iff_lt, Bool.or_self, Bool.false_eq_true, Nat.mul_one, Nat.one_mul, Nat.zero_mul, ↓reduceIte, Nat.reduceEqDiff, Nat.reduceLT, Nat.reduceAdd, Nat.reduceLeDiff, reduceCtorEq, goInt, pairs, isConst, TI.isAgg, splice, boxS, Edp, dpv, Nat.beq_eq, ZV.val, List.any_cons, List.any_nil]
      exact downS_le (Le.trans hle (Le.new' (Le.new hc) hc)) (hbad i hcb.symm)
    · rw [if_neg (by omega)] at hcb
      simp (disch := first | assumption | simp) only [↓sbD, sbU, tyB, Nat.reduceMul, Nat.reduceSub, Int.reduceEq, Int.reduceLT, Int.reduceLE, Int.reduceNe, Nat.reduceBneDiff, Nat.reduceBEq, decide_false, gt_iff_lt, Bool.or_self, Bool.false_eq_true, Nat.mul_one, Nat.one_mul, Nat.zero_mul, ↓reduceIte, Nat.reduceEqDiff, Nat.reduceLT, Nat.reduceAdd, Nat.reduceLeDiff, reduceCtorEq, goInt, pairs, isConst, TI.isAgg, splice, boxS, Edp, dpv, Nat.beq_eq, ZV.val, List.any_cons, List.any_nil, f6, f7, f8, hi, hia, hac, AS_new, zeBd, hx1, hx2, hw]
      intro c hc
      exact ⟨_, m - 1, σ', rfl, by omega, Le.new' (Le.new hc) hc, rfl, i + 1, by omega, by simp (disch := first | assumption | simp) only [↓sbD, sbU, tyB, Nat.reduceMul, Nat.reduceSub, Int.reduceEq, Int.reduceLT, Int.reduceLE, Int.reduceNe, Nat.reduceBneDiff, Nat.reduceBEq, decide_false, gt_iff_lt, Bool.or_self, Bool.false_eq_true, Nat.mul_one, Nat.one_mul, Nat.zero_mul, ↓reduceIte, Nat.reduceEqDiff, Nat.reduceLT, Nat.reduceAdd, Nat.reduceLeDiff, reduceCtorEq, goInt, pairs, isConst, TI.isAgg, splice, boxS, Edp, dpv, Nat.beq_eq, ZV.val, List.any_cons, List.any_nil], hcb⟩
  · obtain rfl : i = 13 := by omega
    have hl0 : l.drop 13 = [] := List.drop_of_length_le (by omega)
    rw [hl0] at hcb
    simp (disch := first | assumption | simp) only [↓sbD, sbU, tyB, Nat.reduceMul, Nat.reduceSub, Int.reduceEq, Int.reduceLT, Int.reduceLE, Int.reduceNe, Nat.reduceBneDiff, Nat.reduceBEq, decide_false, gt_iff_lt, Bool.or_self, Bool.false_eq_true, Nat.mul_one, Nat.one_mul, Nat.zero_mul, ↓reduceIte, Nat.reduceEqDiff, Nat.reduceLT, Nat.reduceAdd, Nat.reduceLeDiff, reduceCtorEq, goInt, pairs, isConst, TI.isAgg, splice, boxS, Edp, dpv, Nat.beq_eq, ZV.val, List.any_cons, List.any_nil, f6, f7, f8, hi]
    exact downS_le hle (hok hcb.symm)
end
end Go.Proofs.YtccimdfmddomaaaDoor.AbsA
namespace Go.Proofs.YtccimdfmddomaaaDoor.AbsA
open Go AbsYtccimdfmddomaaaDoor Abs
set_option maxRecDepth 100000
set_option maxHeartbeats 2000000
set_option linter.unusedSimpArgs false
set_option linter.unusedVariables false
attribute [local irreducible] afterS afterOpS opSK OpsS TrS CodeS condS condW thenS thenQ guardS guardTS outS drawS trSK consS
/-- an event -/
structure Ev where
  k : Int
  c : Int
  b : ByteArray
  n : Int
deriving DecidableEq
def evC (e : Ev) : List Value := [.int .i64 e.k, .int .i64 e.c, .string e.b, .int .i64 e.n]
/-- numbers of four bytes, one behind the other -/
def numsR (s : ByteArray) (p : Nat) : Nat → List Nat → Rd (List Nat)
  | 0, acc => .ok (acc, p)
  | m + 1, acc => match numR s p 4 with
    | .error e => .error e
    | .ok (n, q) => numsR s q m (acc ++ [n])
abbrev Er := Nat × Nat × Nat
def castL (l : List Nat) : List Int := l.map fun n : Nat => (n : Int)
def cfgR (s : ByteArray) (p : Nat) : Except Er (List Int × Nat) := match numsR s p 13 [] with
  | .error (k, q) => .error (k, 129, q)
  | .ok (l, q) => match cfgBad 0 (castL l) bndL with
    | some i => .error (7, 131, i)
    | none => .ok (castL l, q)
def nameB : ByteArray := ⟨#[67, 82, 73, 69, 82]⟩
def headR (s : ByteArray) : Except Er (List Int × Nat × Nat) := match rawR s 0 5 with
  | .error (k, q) => .error (k, 129, q)
  | .ok (v, q) => if v = nameB then match cfgR s q with
      | .error e => .error e
      | .ok (c, q) => match numR s q 2 with
        | .error (k, q') => .error (k, 129, q')
        | .ok (n, q') => if 16384 < n then .error (4, 149, q) else .ok (c, n, q')
    else .error (2, 129, 0)
def evR (s : ByteArray) (p : Nat) : Except Er (Ev × Nat) := match numR s p 1 with
  | .error (k, q) => .error (k, 129, q)
  | .ok (kd, q1) => match numR s q1 1 with
    | .error (k, q) => .error (k, 129, q)
    | .ok (cn, q2) => match numR s q2 4 with
      | .error (k, q) => .error (k, 129, q)
      | .ok (n, q3) => match binR s q3 with
        | .error (k, q) => .error (k, 129, q)
        | .ok (b, q4) => if 1 ≤ kd ∧ kd ≤ 7 then .ok (⟨kd, cn, b, n⟩, q4) else .error (2, 129, p)
def evsR (s : ByteArray) : Nat → Nat → List Ev → Except Er (List Ev × Nat)
  | 0, p, acc => .ok (acc, p)
  | m + 1, p, acc => match evR s p with
    | .error e => .error e
    | .ok (e, q) => evsR s m q (acc ++ [e])
def takeR (s : ByteArray) : Except Er (List Int × List Ev) := match headR s with
  | .error e => .error e
  | .ok (c, n, q) => match evsR s n q [] with
    | .error e => .error e
    | .ok (l, q') => if q' < s.size then .error (2, 129, q') else .ok (c, l)
section
variable {σ : AHeap} {Q : Value → AHeap → Prop} {r p : Nat} {s : ByteArray}
theorem iaArr {d : Nat} {n : Int} (h0 : 0 ≤ n) (h1 : n < 13) : aindexAddr E 180 (.pointer (some ⟨d, 0, none⟩)) (.int .i64 n) = some (.pointer (some ⟨d, n.toNat, none⟩)) := by
  simp [aindexAddr, ty180, ty3, h0, h1]
end
end Go.Proofs.YtccimdfmddomaaaDoor.AbsA
