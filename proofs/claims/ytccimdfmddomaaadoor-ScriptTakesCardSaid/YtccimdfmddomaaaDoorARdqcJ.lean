/-
  Parts of a law's proof.
-/
import Derived.Test.YtccimdfmddomaaaDoorAFwqdJ
namespace Go.Proofs.YtccimdfmddomaaaDoor.AbsA
open Go AbsYtccimdfmddomaaaDoor Abs
set_option maxRecDepth 100000
set_option maxHeartbeats 4000000
set_option linter.unusedSimpArgs false
set_option linter.unusedVariables false
/-- the number that bytes tell, the first one the greatest -/
def beF (b : ByteArray) : Nat → Nat
  | 0 => 0
  | i + 1 => beF b i * 256 + bt b i
def numR (s : ByteArray) (p k : Nat) : Rd Nat := match rawR s p k with
  | .ok (b, q) => .ok (beF b b.size, q)
  | .error e => .error e
def varR (s : ByteArray) (p : Nat) : Rd Nat := match takeF (s.extract p s.size) 4 0 0 with
  | .inl (n, k) => .ok (n, p + k)
  | .inr (k, q) => .error (k + 1, p + q)
def binR (s : ByteArray) (p : Nat) : Rd ByteArray := match numR s p 2 with
  | .ok (n, q) => rawR s q n
  | .error e => .error e
def textR (s : ByteArray) (p : Nat) : Rd ByteArray := match binR s p with
  | .ok (b, q) => match textF b with
    | .inl _ => .ok (b, q)
    | .inr (k, j) => .error (k + 1, p + 2 + j)
  | .error e => .error e
theorem beF_lt (b : ByteArray) : ∀ i, beF b i < 256 ^ i
  | 0 => by simp [beF]
  | i + 1 => by
    have h1 := beF_lt b i
    have h2 := bt_lt b i
    rw [beF, Nat.pow_succ]
    omega
theorem rawR_ok {s v : ByteArray} {p q : Nat} {n : Int} (h : rawR s p n = .ok (v, q)) : 0 ≤ n ∧ v = s.extract p q ∧ q = p + n.toNat ∧ q ≤ s.size ∧ v.size = n.toNat := by
  unfold rawR at h
  split at h
  · cases h
  · split at h
    · cases h
    · injection h with h; injection h with h1 h2
      subst h1; subst h2
      refine ⟨by omega, rfl, rfl, by omega, ?_⟩
      rw [ByteArray.size_extract]; omega
theorem shl8 {σ : AHeap} {N t : Nat} {cs : Bool} (h : N < 16777216) : abin E σ .shl t cs (.int .i64 (N : Int)) (.int .u64 8) = some (.int .i64 ((N * 256 : Nat) : Int)) := by
  simp only [abin, ashift]
  rw [if_neg (by omega)]
  show some (Value.int .i64 (IntKind.i64.wrap ((N : Int) * 2 ^ 8))) = _
  rw [wrap64 ⟨by omega, by omega⟩]; congr 2
theorem or8 {N m : Nat} (h : N < 16777216) (hm : m < 256) : aint .or .i64 ((N * 256 : Nat) : Int) (m : Int) = some (.int .i64 ((N * 256 + m : Nat) : Int)) := by
  have e : N * 256 ||| m = N * 256 + m := by
    have := or_add (n := m) (m := N) (i := 8) (by omega)
    rw [Nat.or_comm, show N * 256 = N * 2 ^ 8 from rfl, this]; omega
  rw [abits_nat (by omega) (by omega) (by rw [e]; omega), e]
theorem conv_by {σ : AHeap} {b : ByteArray} {K : Value → AHeap → Prop} (hq : ∀ d, σ.get d = .dead → K (.slice (some ⟨d, 0, none⟩) b.size b.size) (σ.set d (.cells (bytesOf b) true 1))) : afterOpS E B (some (convS E σ 9 70 (.string b))) σ K := by
  have e : convS E σ 9 70 (.string b) = .any fun d => aconvert E (σ.resize d) 9 70 (.string b) := by
    simp only [convS, conv_bytes, offHeap]
  rw [e]
  intro d hd
  exact ⟨_, _, conv_bytes, hq d (dead_of hd)⟩
section
variable {σ : AHeap} {r p : Nat} {s : ByteArray} {Q : Value → AHeap → Prop}
/-- the loop over bytes -/
theorem specRNum {k : Nat} (hk : k ≤ 4) (hr : IsR σ r s p .nilIface) (hp : p ≤ s.size) (hs : s.size ≤ 1000000000)
    (hok : ∀ n q, numR s p k = .ok (n, q) → ∀ σ', Kept σ [r] σ' [r] → IsR σ' r s q .nilIface → Q (.int .i64 (n : Int)) σ')
    (hbad : ∀ e q, numR s p k = .error (e, q) → ∀ σ', Kept σ [r] σ' [r] → RBad σ' r s p e q → Q (.int .i64 0) σ') : CallS E B 127 [.pointer (some ⟨r, 0, none⟩), .int .i64 (k : Int)] σ Q := by
  refine call127 (by simp) ?_
  simp only [strip, bodyOf, Tryd.f127, getD_body, keepN, bareOp_mk, lessOp_mk, lapp_cons, lapp_nil, List.map_cons, List.map_nil, array_toList, ↓reduceIte, Nat.reduceEqDiff, Bool.false_eq_true]
  simp (disch := first | assumption | simp) only [↓sbD, sbU, tyB, Nat.reduceMul, Nat.reduceSub, Int.reduceEq, Int.reduceLT, Int.reduceLE, Int.reduceNe, Nat.reduceBneDiff, Nat.reduceBEq, decide_false, gt_iff_lt, Bool.or_self, Bool.false_eq_true, Nat.mul_one, Nat.one_mul, Nat.zero_mul, ↓reduceIte, Nat.reduceEqDiff, Nat.reduceLT, Nat.reduceAdd, Nat.reduceLeDiff, reduceCtorEq, goInt, pairs, isConst, TI.isAgg, splice, boxS, Edp, dpv, Nat.beq_eq, ZV.val, List.any_cons, List.any_nil]
  refine specRRaw hr hp hs (fun b q hb σ1 k1 i1 => ?_) fun e q hb σ1 k1 i1 => ?_
  · obtain ⟨_, _, _, _, hbz⟩ := rawR_ok hb
    rw [Int.toNat_natCast] at hbz
    simp (disch := first | assumption | simp) only [↓sbD, sbU, tyB, Nat.reduceMul, Nat.reduceSub, Int.reduceEq, Int.reduceLT, Int.reduceLE, Int.reduceNe, Nat.reduceBneDiff, Nat.reduceBEq, decide_false, gt_iff_lt, Bool.or_self, Bool.false_eq_true, Nat.mul_one, Nat.one_mul, Nat.zero_mul, ↓reduceIte, Nat.reduceEqDiff, Nat.reduceLT, Nat.reduceAdd, Nat.reduceLeDiff, reduceCtorEq, goInt, pairs, isConst, TI.isAgg, splice, boxS, Edp, dpv, Nat.beq_eq, ZV.val, List.any_cons, List.any_nil]
    refine conv_by fun d hd => ?_
    simp (disch := first | assumption | simp) only [↓sbD, sbU, tyB, Nat.reduceMul, Nat.reduceSub, Int.reduceEq, Int.reduceLT, Int.reduceLE, Int.reduceNe, Nat.reduceBneDiff, Nat.reduceBEq, decide_false, gt_iff_lt, Bool.or_self, Bool.false_eq_true, Nat.mul_one, Nat.one_mul, Nat.zero_mul, ↓reduceIte, Nat.reduceEqDiff, Nat.reduceLT, Nat.reduceAdd, Nat.reduceLeDiff, reduceCtorEq, goInt, pairs, isConst, TI.isAgg, splice, boxS, Edp, dpv, Nat.beq_eq, ZV.val, List.any_cons, List.any_nil]
    have hg : (σ1.set d (.cells (bytesOf b) true 1)).get d = .cells (bytesOf b) true 1 := AHeap.get_set_same _ _ _
    refine S_loop (fun m f σ' => σ' = σ1.set d (.cells (bytesOf b) true 1) ∧ ∃ i : Nat, i ≤ b.size ∧ m + i = b.size ∧ f 13 = .int .i64 i ∧ f 5 = .int .i64 (beF b i : Int)) b.size (Le.refl _) ⟨rfl, 0, by omega, rfl, by simp (disch := first | assumption | simp) only [↓sbD, sbU, tyB, Nat.reduceMul, Nat.reduceSub, Int.reduceEq, Int.reduceLT, Int.reduceLE, Int.reduceNe, Nat.reduceBneDiff, Nat.reduceBEq, decide_false, gt_iff_lt, Bool.or_self, Bool.false_eq_true, Nat.mul_one, Nat.one_mul, Nat.zero_mul, ↓reduceIte, Nat.reduceEqDiff, Nat.reduceLT, Nat.reduceAdd, Nat.reduceLeDiff, reduceCtorEq, goInt, pairs, isConst, TI.isAgg, splice, boxS, Edp, dpv, Nat.beq_eq, ZV.val, List.any_cons, List.any_nil]; rfl, by simp (disch := first | assumption | simp) only [↓sbD, sbU, tyB, Nat.reduceMul, Nat.reduceSub, Int.reduceEq, Int.reduceLT, Int.reduceLE, Int.reduceNe, Nat.reduceBneDiff, Nat.reduceBEq, decide_false, gt_iff_lt, Bool.or_self, Bool.false_eq_true, Nat.mul_one, Nat.one_mul, Nat.zero_mul, ↓reduceIte, Nat.reduceEqDiff, Nat.reduceLT, Nat.reduceAdd, Nat.reduceLeDiff, reduceCtorEq, goInt, pairs, isConst, TI.isAgg, splice, boxS, Edp, dpv, Nat.beq_eq, ZV.val, List.any_cons, List.any_nil]; rfl⟩ ?_
    rintro m f σ' ⟨rfl, i, hib, hm, f13, f5⟩ hf
    have f11 := hf 11 (by decide) (notMem_wr (by kernel_rfl))
    have f12 := hf 12 (by decide) (notMem_wr (by kernel_rfl))
    simp (disch := first | assumption | simp) only [↓sbD, sbU, tyB, Nat.reduceMul, Nat.reduceSub, Int.reduceEq, Int.reduceLT, Int.reduceLE, Int.reduceNe, Nat.reduceBneDiff, Nat.reduceBEq, decide_false, gt_iff_lt, Bool.or_self, Bool.false_eq_true, Nat.mul_one, Nat.one_mul, Nat.zero_mul, ↓reduceIte, Nat.reduceEqDiff, Nat.reduceLT, Nat.reduceAdd, Nat.reduceLeDiff, reduceCtorEq, goInt, pairs, isConst, TI.isAgg, splice, boxS, Edp, dpv, Nat.beq_eq, ZV.val, List.any_cons, List.any_nil] at f11 f12
    clear hf
    by_cases hi : (i : Int) < (b.size : Int)
    · have hi' : i < b.size := by omega
      have hlt : beF b i < 16777216 := by
        have := beF_lt b i
        have h3 : 256 ^ i ≤ 256 ^ 3 := Nat.pow_le_pow_right (by omega) (by omega)
        omega
      have hw := wrap_suc (n := i) (by omega)
      have hbt : bt b i < 256 := bt_lt b i
      have hw2 : IntKind.i64.wrap ((bt b i : Nat) : Int) = ((bt b i : Nat) : Int) := wrap64 ⟨by omega, by omega⟩
      simp (disch := first | assumption | simp) only [↓sbD, sbU, tyB, Nat.reduceMul, Nat.reduceSub, Int.reduceEq, Int.reduceLT, Int.reduceLE, Int.reduceNe, Nat.reduceBneDiff, Nat.reduceBEq, decide_false, gt_iff_lt, Bool.or_self, Bool.false_eq_true, Nat.mul_one, Nat.one_mul, Nat.zero_mul, ↓reduceIte, Nat.reduceEqDiff, Nat.reduceLT, Nat.reduceAdd, Nat.reduceLeDiff, reduceCtorEq, goInt, pairs, isConst, TI.isAgg, splice, boxS, Edp, dpv, Nat.beq_eq, ZV.val, List.any_cons, List.any_nil, f5, f11, f12, f13, hi, bytes_get hi', shl8 hlt, hw2, or8 hlt hbt, hw]
      exact ⟨_, m - 1, _, rfl, by omega, Le.refl _, rfl, i + 1, by omega, by omega, by simp (disch := first | assumption | simp) only [↓sbD, sbU, tyB, Nat.reduceMul, Nat.reduceSub, Int.reduceEq, Int.reduceLT, Int.reduceLE, Int.reduceNe, Nat.reduceBneDiff, Nat.reduceBEq, decide_false, gt_iff_lt, Bool.or_self, Bool.false_eq_true, Nat.mul_one, Nat.one_mul, Nat.zero_mul, ↓reduceIte, Nat.reduceEqDiff, Nat.reduceLT, Nat.reduceAdd, Nat.reduceLeDiff, reduceCtorEq, goInt, pairs, isConst, TI.isAgg, splice, boxS, Edp, dpv, Nat.beq_eq, ZV.val, List.any_cons, List.any_nil], by simp (disch := first | assumption | simp) only [↓sbD, sbU, tyB, Nat.reduceMul, Nat.reduceSub, Int.reduceEq, Int.reduceLT, Int.reduceLE, Int.reduceNe, Nat.reduceBneDiff, Nat.reduceBEq, decide_false, gt_iff_lt, Bool.or_self, Bool.false_eq_true, Nat.mul_one, Nat.one_mul, Nat.zero_mul, ↓reduceIte, Nat.reduceEqDiff, Nat.reduceLT, Nat.reduceAdd, Nat.reduceLeDiff, reduceCtorEq, goInt, pairs, isConst, TI.isAgg, splice, boxS, Edp, dpv, Nat.beq_eq, ZV.val, List.any_cons, List.any_nil]; rfl⟩
    · obtain rfl : i = b.size := by omega
      simp (disch := first | assumption | simp) only [↓sbD, sbU, tyB, Nat.reduceMul, Nat.reduceSub, Int.reduceEq, Int.reduceLT, Int.reduceLE, Int.reduceNe, Nat.reduceBneDiff, Nat.reduceBEq, decide_false, gt_iff_lt, Bool.or_self, Bool.false_eq_true, Nat.mul_one, Nat.one_mul, Nat.zero_mul, ↓reduceIte, Nat.reduceEqDiff, Nat.reduceLT, Nat.reduceAdd, Nat.reduceLeDiff, reduceCtorEq, goInt, pairs, isConst, TI.isAgg, splice, boxS, Edp, dpv, Nat.beq_eq, ZV.val, List.any_cons, List.any_nil, f5, f11, f12, f13, hi]
      refine downS_le (Le.new hd) (hok _ q (by unfold numR; rw [hb]) σ1 k1 i1)
  · simp (disch := first | assumption | simp) only [↓sbD, sbU, tyB, Nat.reduceMul, Nat.reduceSub, Int.reduceEq, Int.reduceLT, Int.reduceLE, Int.reduceNe, Nat.reduceBneDiff, Nat.reduceBEq, decide_false, gt_iff_lt, Bool.or_self, Bool.false_eq_true, Nat.mul_one, Nat.one_mul, Nat.zero_mul, ↓reduceIte, Nat.reduceEqDiff, Nat.reduceLT, Nat.reduceAdd, Nat.reduceLeDiff, reduceCtorEq, goInt, pairs, isConst, TI.isAgg, splice, boxS, Edp, dpv, Nat.beq_eq, ZV.val, List.any_cons, List.any_nil]
    refine conv_by fun d hd => ?_
    simp (disch := first | assumption | simp) only [↓sbD, sbU, tyB, Nat.reduceMul, Nat.reduceSub, Int.reduceEq, Int.reduceLT, Int.reduceLE, Int.reduceNe, Nat.reduceBneDiff, Nat.reduceBEq, decide_false, gt_iff_lt, Bool.or_self, Bool.false_eq_true, Nat.mul_one, Nat.one_mul, Nat.zero_mul, ↓reduceIte, Nat.reduceEqDiff, Nat.reduceLT, Nat.reduceAdd, Nat.reduceLeDiff, reduceCtorEq, goInt, pairs, isConst, TI.isAgg, splice, boxS, Edp, dpv, Nat.beq_eq, ZV.val, List.any_cons, List.any_nil]
    have h0 : ((emp.size : Nat) : Int) = 0 := rfl
    refine S_loop (fun m f σ' => σ' = σ1.set d (.cells (bytesOf emp) true 1) ∧ f 13 = .int .i64 0 ∧ f 5 = .int .i64 0) 0 (Le.refl _) ⟨rfl, by simp (disch := first | assumption | simp) only [↓sbD, sbU, tyB, Nat.reduceMul, Nat.reduceSub, Int.reduceEq, Int.reduceLT, Int.reduceLE, Int.reduceNe, Nat.reduceBneDiff, Nat.reduceBEq, decide_false, gt_iff_lt, Bool.or_self, Bool.false_eq_true, Nat.mul_one, Nat.one_mul, Nat.zero_mul, ↓reduceIte, Nat.reduceEqDiff, Nat.reduceLT, Nat.reduceAdd, Nat.reduceLeDiff, reduceCtorEq, goInt, pairs, isConst, TI.isAgg, splice, boxS, Edp, dpv, Nat.beq_eq, ZV.val, List.any_cons, List.any_nil], by simp (disch := first | assumption | simp) only [↓sbD, sbU, tyB, Nat.reduceMul, Nat.reduceSub, Int.reduceEq, Int.reduceLT, Int.reduceLE, Int.reduceNe, Nat.reduceBneDiff, Nat.reduceBEq, decide_false, gt_iff_lt, Bool.or_self, Bool.false_eq_true, Nat.mul_one, Nat.one_mul, Nat.zero_mul, ↓reduceIte, Nat.reduceEqDiff, Nat.reduceLT, Nat.reduceAdd, Nat.reduceLeDiff, reduceCtorEq, goInt, pairs, isConst, TI.isAgg, splice, boxS, Edp, dpv, Nat.beq_eq, ZV.val, List.any_cons, List.any_nil]⟩ ?_
    rintro m f σ' ⟨rfl, f13, f5⟩ hf
    have f12 := hf 12 (by decide) (notMem_wr (by kernel_rfl))
    simp (disch := first | assumption | simp) only [↓sbD, sbU, tyB, Nat.reduceMul, Nat.reduceSub, Int.reduceEq, Int.reduceLT, Int.reduceLE, Int.reduceNe, Nat.reduceBneDiff, Nat.reduceBEq, decide_false, gt_iff_lt, Bool.or_self, Bool.false_eq_true, Nat.mul_one, Nat.one_mul, Nat.zero_mul, ↓reduceIte, Nat.reduceEqDiff, Nat.reduceLT, Nat.reduceAdd, Nat.reduceLeDiff, reduceCtorEq, goInt, pairs, isConst, TI.isAgg, splice, boxS, Edp, dpv, Nat.beq_eq, ZV.val, List.any_cons, List.any_nil] at f12
    clear hf
    simp (disch := first | assumption | simp) only [↓sbD, sbU, tyB, Nat.reduceMul, Nat.reduceSub, Int.reduceEq, Int.reduceLT, Int.reduceLE, Int.reduceNe, Nat.reduceBneDiff, Nat.reduceBEq, decide_false, gt_iff_lt, Bool.or_self, Bool.false_eq_true, Nat.mul_one, Nat.one_mul, Nat.zero_mul, ↓reduceIte, Nat.reduceEqDiff, Nat.reduceLT, Nat.reduceAdd, Nat.reduceLeDiff, reduceCtorEq, goInt, pairs, isConst, TI.isAgg, splice, boxS, Edp, dpv, Nat.beq_eq, ZV.val, List.any_cons, List.any_nil, f5, f12, f13, h0]
    exact downS_le (Le.new hd) (hbad e q (by unfold numR; rw [hb]) σ1 k1 i1)
end
end Go.Proofs.YtccimdfmddomaaaDoor.AbsA
namespace Go.Proofs.YtccimdfmddomaaaDoor.AbsA
open Go AbsYtccimdfmddomaaaDoor Abs
set_option maxRecDepth 100000
set_option maxHeartbeats 4000000
set_option linter.unusedSimpArgs false
set_option linter.unusedVariables false
section
variable {σ : AHeap} {r p : Nat} {s : ByteArray} {Q : Value → AHeap → Prop}
theorem specRNumE {k : Nat} {u : Nat} {x : Value} (hr : IsR σ r s p (.iface u x)) (h : Q (.int .i64 0) σ) : CallS E B 127 [.pointer (some ⟨r, 0, none⟩), .int .i64 (k : Int)] σ Q := by
  refine call127 (by simp) ?_
  simp only [strip, bodyOf, Tryd.f127, getD_body, keepN, bareOp_mk, lessOp_mk, lapp_cons, lapp_nil, List.map_cons, List.map_nil, array_toList, ↓reduceIte, Nat.reduceEqDiff, Bool.false_eq_true]
  simp (disch := first | assumption | simp) only [↓sbD, sbU, tyB, Nat.reduceMul, Nat.reduceSub, Int.reduceEq, Int.reduceLT, Int.reduceLE, Int.reduceNe, Nat.reduceBneDiff, Nat.reduceBEq, decide_false, gt_iff_lt, Bool.or_self, Bool.false_eq_true, Nat.mul_one, Nat.one_mul, Nat.zero_mul, ↓reduceIte, Nat.reduceEqDiff, Nat.reduceLT, Nat.reduceAdd, Nat.reduceLeDiff, reduceCtorEq, goInt, pairs, isConst, TI.isAgg, splice, boxS, Edp, dpv, Nat.beq_eq, ZV.val, List.any_cons, List.any_nil]
  refine specRRawE hr ?_
  simp (disch := first | assumption | simp) only [↓sbD, sbU, tyB, Nat.reduceMul, Nat.reduceSub, Int.reduceEq, Int.reduceLT, Int.reduceLE, Int.reduceNe, Nat.reduceBneDiff, Nat.reduceBEq, decide_false, gt_iff_lt, Bool.or_self, Bool.false_eq_true, Nat.mul_one, Nat.one_mul, Nat.zero_mul, ↓reduceIte, Nat.reduceEqDiff, Nat.reduceLT, Nat.reduceAdd, Nat.reduceLeDiff, reduceCtorEq, goInt, pairs, isConst, TI.isAgg, splice, boxS, Edp, dpv, Nat.beq_eq, ZV.val, List.any_cons, List.any_nil]
  refine conv_by fun d hd => ?_
  simp (disch := first | assumption | simp) only [↓sbD, sbU, tyB, Nat.reduceMul, Nat.reduceSub, Int.reduceEq, Int.reduceLT, Int.reduceLE, Int.reduceNe, Nat.reduceBneDiff, Nat.reduceBEq, decide_false, gt_iff_lt, Bool.or_self, Bool.false_eq_true, Nat.mul_one, Nat.one_mul, Nat.zero_mul, ↓reduceIte, Nat.reduceEqDiff, Nat.reduceLT, Nat.reduceAdd, Nat.reduceLeDiff, reduceCtorEq, goInt, pairs, isConst, TI.isAgg, splice, boxS, Edp, dpv, Nat.beq_eq, ZV.val, List.any_cons, List.any_nil]
  have h0 : ((emp.size : Nat) : Int) = 0 := rfl
  refine S_loop (fun m f σ' => σ' = σ.set d (.cells (bytesOf emp) true 1) ∧ f 13 = .int .i64 0 ∧ f 5 = .int .i64 0) 0 (Le.refl _) ⟨rfl, by simp (disch := first | assumption | simp) only [↓sbD, sbU, tyB, Nat.reduceMul, Nat.reduceSub, Int.reduceEq, Int.reduceLT, Int.reduceLE, Int.reduceNe, Nat.reduceBneDiff, Nat.reduceBEq, decide_false, gt_iff_lt, Bool.or_self, Bool.false_eq_true, Nat.mul_one, Nat.one_mul, Nat.zero_mul, ↓reduceIte, Nat.reduceEqDiff, Nat.reduceLT, Nat.reduceAdd, Nat.reduceLeDiff, reduceCtorEq, goInt, pairs, isConst, TI.isAgg, splice, boxS, Edp, dpv, Nat.beq_eq, ZV.val, List.any_cons, List.any_nil], by simp (disch := first | assumption | simp) only [↓sbD, sbU, tyB, Nat.reduceMul, Nat.reduceSub, Int.reduceEq, Int.reduceLT, Int.reduceLE, Int.reduceNe, Nat.reduceBneDiff, Nat.reduceBEq, decide_false, gt_iff_lt, Bool.or_self, Bool.false_eq_true, Nat.mul_one, Nat.one_mul, Nat.zero_mul, ↓reduceIte, Nat.reduceEqDiff, Nat.reduceLT, Nat.reduceAdd, Nat.reduceLeDiff, reduceCtorEq, goInt, pairs, isConst, TI.isAgg, splice, boxS, Edp, dpv, Nat.beq_eq, ZV.val, List.any_cons, List.any_nil]⟩ ?_
  rintro m f σ' ⟨rfl, f13, f5⟩ hf
  have f12 := hf 12 (by decide) (notMem_wr (by kernel_rfl))
  simp (disch := first | assumption | simp) only [↓sbD, sbU, tyB, Nat.reduceMul, Nat.reduceSub, Int.reduceEq, Int.reduceLT, Int.reduceLE, Int.reduceNe, Nat.reduceBneDiff, Nat.reduceBEq, decide_false, gt_iff_lt, Bool.or_self, Bool.false_eq_true, Nat.mul_one, Nat.one_mul, Nat.zero_mul, ↓reduceIte, Nat.reduceEqDiff, Nat.reduceLT, Nat.reduceAdd, Nat.reduceLeDiff, reduceCtorEq, goInt, pairs, isConst, TI.isAgg, splice, boxS, Edp, dpv, Nat.beq_eq, ZV.val, List.any_cons, List.any_nil] at f12
  clear hf
  simp (disch := first | assumption | simp) only [↓sbD, sbU, tyB, Nat.reduceMul, Nat.reduceSub, Int.reduceEq, Int.reduceLT, Int.reduceLE, Int.reduceNe, Nat.reduceBneDiff, Nat.reduceBEq, decide_false, gt_iff_lt, Bool.or_self, Bool.false_eq_true, Nat.mul_one, Nat.one_mul, Nat.zero_mul, ↓reduceIte, Nat.reduceEqDiff, Nat.reduceLT, Nat.reduceAdd, Nat.reduceLeDiff, reduceCtorEq, goInt, pairs, isConst, TI.isAgg, splice, boxS, Edp, dpv, Nat.beq_eq, ZV.val, List.any_cons, List.any_nil, f5, f12, f13, h0]
  exact downS_le (Le.new hd) h
theorem specRU8 (hr : IsR σ r s p .nilIface) (hp : p ≤ s.size) (hs : s.size ≤ 1000000000)
    (hok : ∀ n q, numR s p 1 = .ok (n, q) → ∀ σ', Kept σ [r] σ' [r] → IsR σ' r s q .nilIface → Q (.int .i64 (n : Int)) σ')
    (hbad : ∀ e q, numR s p 1 = .error (e, q) → ∀ σ', Kept σ [r] σ' [r] → RBad σ' r s p e q → Q (.int .i64 0) σ') : CallS E B 89 [.pointer (some ⟨r, 0, none⟩)] σ Q := by
  refine call89 (by simp) ?_
  simp only [strip, bodyOf, Tryd.f89, getD_body, keepN, bareOp_mk, lessOp_mk, lapp_cons, lapp_nil, List.map_cons, List.map_nil, array_toList, ↓reduceIte, Nat.reduceEqDiff, Bool.false_eq_true]
  simp (disch := first | assumption | simp) only [↓sbD, sbU, tyB, Nat.reduceMul, Nat.reduceSub, Int.reduceEq, Int.reduceLT, Int.reduceLE, Int.reduceNe, Nat.reduceBneDiff, Nat.reduceBEq, decide_false, gt_iff_lt, Bool.or_self, Bool.false_eq_true, Nat.mul_one, Nat.one_mul, Nat.zero_mul, ↓reduceIte, Nat.reduceEqDiff, Nat.reduceLT, Nat.reduceAdd, Nat.reduceLeDiff, reduceCtorEq, goInt, pairs, isConst, TI.isAgg, splice, boxS, Edp, dpv, Nat.beq_eq, ZV.val, List.any_cons, List.any_nil]
  refine specRNum (k := 1) (by omega) hr hp hs (fun n q hn σ' k1 i1 => ?_) fun e q hn σ' k1 i1 => ?_
  · simp (disch := first | assumption | simp) only [↓sbD, sbU, tyB, Nat.reduceMul, Nat.reduceSub, Int.reduceEq, Int.reduceLT, Int.reduceLE, Int.reduceNe, Nat.reduceBneDiff, Nat.reduceBEq, decide_false, gt_iff_lt, Bool.or_self, Bool.false_eq_true, Nat.mul_one, Nat.one_mul, Nat.zero_mul, ↓reduceIte, Nat.reduceEqDiff, Nat.reduceLT, Nat.reduceAdd, Nat.reduceLeDiff, reduceCtorEq, goInt, pairs, isConst, TI.isAgg, splice, boxS, Edp, dpv, Nat.beq_eq, ZV.val, List.any_cons, List.any_nil]
    exact downS_here (hok n q hn σ' k1 i1)
  · simp (disch := first | assumption | simp) only [↓sbD, sbU, tyB, Nat.reduceMul, Nat.reduceSub, Int.reduceEq, Int.reduceLT, Int.reduceLE, Int.reduceNe, Nat.reduceBneDiff, Nat.reduceBEq, decide_false, gt_iff_lt, Bool.or_self, Bool.false_eq_true, Nat.mul_one, Nat.one_mul, Nat.zero_mul, ↓reduceIte, Nat.reduceEqDiff, Nat.reduceLT, Nat.reduceAdd, Nat.reduceLeDiff, reduceCtorEq, goInt, pairs, isConst, TI.isAgg, splice, boxS, Edp, dpv, Nat.beq_eq, ZV.val, List.any_cons, List.any_nil]
    exact downS_here (hbad e q hn σ' k1 i1)
theorem specRU8E {u : Nat} {x : Value} (hr : IsR σ r s p (.iface u x)) (h : Q (.int .i64 0) σ) : CallS E B 89 [.pointer (some ⟨r, 0, none⟩)] σ Q := by
  refine call89 (by simp) ?_
  simp only [strip, bodyOf, Tryd.f89, getD_body, keepN, bareOp_mk, lessOp_mk, lapp_cons, lapp_nil, List.map_cons, List.map_nil, array_toList, ↓reduceIte, Nat.reduceEqDiff, Bool.false_eq_true]
  simp (disch := first | assumption | simp) only [↓sbD, sbU, tyB, Nat.reduceMul, Nat.reduceSub, Int.reduceEq, Int.reduceLT, Int.reduceLE, Int.reduceNe, Nat.reduceBneDiff, Nat.reduceBEq, decide_false, gt_iff_lt, Bool.or_self, Bool.false_eq_true, Nat.mul_one, Nat.one_mul, Nat.zero_mul, ↓reduceIte, Nat.reduceEqDiff, Nat.reduceLT, Nat.reduceAdd, Nat.reduceLeDiff, reduceCtorEq, goInt, pairs, isConst, TI.isAgg, splice, boxS, Edp, dpv, Nat.beq_eq, ZV.val, List.any_cons, List.any_nil]
  refine specRNumE (k := 1) hr ?_
  simp (disch := first | assumption | simp) only [↓sbD, sbU, tyB, Nat.reduceMul, Nat.reduceSub, Int.reduceEq, Int.reduceLT, Int.reduceLE, Int.reduceNe, Nat.reduceBneDiff, Nat.reduceBEq, decide_false, gt_iff_lt, Bool.or_self, Bool.false_eq_true, Nat.mul_one, Nat.one_mul, Nat.zero_mul, ↓reduceIte, Nat.reduceEqDiff, Nat.reduceLT, Nat.reduceAdd, Nat.reduceLeDiff, reduceCtorEq, goInt, pairs, isConst, TI.isAgg, splice, boxS, Edp, dpv, Nat.beq_eq, ZV.val, List.any_cons, List.any_nil]
  exact downS_here h
theorem specRU16 (hr : IsR σ r s p .nilIface) (hp : p ≤ s.size) (hs : s.size ≤ 1000000000)
    (hok : ∀ n q, numR s p 2 = .ok (n, q) → ∀ σ', Kept σ [r] σ' [r] → IsR σ' r s q .nilIface → Q (.int .i64 (n : Int)) σ')
    (hbad : ∀ e q, numR s p 2 = .error (e, q) → ∀ σ', Kept σ [r] σ' [r] → RBad σ' r s p e q → Q (.int .i64 0) σ') : CallS E B 84 [.pointer (some ⟨r, 0, none⟩)] σ Q := by
  refine call84 (by simp) ?_
  simp only [strip, bodyOf, Tryd.f84, getD_body, keepN, bareOp_mk, lessOp_mk, lapp_cons, lapp_nil, List.map_cons, List.map_nil, array_toList, ↓reduceIte, Nat.reduceEqDiff, Bool.false_eq_true]
  simp (disch := first | assumption | simp) only [↓sbD, sbU, tyB, Nat.reduceMul, Nat.reduceSub, Int.reduceEq, Int.reduceLT, Int.reduceLE, Int.reduceNe, Nat.reduceBneDiff, Nat.reduceBEq, decide_false, gt_iff_lt, Bool.or_self, Bool.false_eq_true, Nat.mul_one, Nat.one_mul, Nat.zero_mul, ↓reduceIte, Nat.reduceEqDiff, Nat.reduceLT, Nat.reduceAdd, Nat.reduceLeDiff, reduceCtorEq, goInt, pairs, isConst, TI.isAgg, splice, boxS, Edp, dpv, Nat.beq_eq, ZV.val, List.any_cons, List.any_nil]
  refine specRNum (k := 2) (by omega) hr hp hs (fun n q hn σ' k1 i1 => ?_) fun e q hn σ' k1 i1 => ?_
  · simp (disch := first | assumption | simp) only [↓sbD, sbU, tyB, Nat.reduceMul, Nat.reduceSub, Int.reduceEq, Int.reduceLT, Int.reduceLE, Int.reduceNe, Nat.reduceBneDiff, Nat.reduceBEq, decide_false, gt_iff_lt, Bool.or_self, Bool.false_eq_true, Nat.mul_one, Nat.one_mul, Nat.zero_mul, ↓reduceIte, Nat.reduceEqDiff, Nat.reduceLT, Nat.reduceAdd, Nat.reduceLeDiff, reduceCtorEq, goInt, pairs, isConst, TI.isAgg, splice, boxS, Edp, dpv, Nat.beq_eq, ZV.val, List.any_cons, List.any_nil]
    exact downS_here (hok n q hn σ' k1 i1)
  · simp (disch := first | assumption | simp) only [↓sbD, sbU, tyB, Nat.reduceMul, Nat.reduceSub, Int.reduceEq, Int.reduceLT, Int.reduceLE, Int.reduceNe, Nat.reduceBneDiff, Nat.reduceBEq, decide_false, gt_iff_lt, Bool.or_self, Bool.false_eq_true, Nat.mul_one, Nat.one_mul, Nat.zero_mul, ↓reduceIte, Nat.reduceEqDiff, Nat.reduceLT, Nat.reduceAdd, Nat.reduceLeDiff, reduceCtorEq, goInt, pairs, isConst, TI.isAgg, splice, boxS, Edp, dpv, Nat.beq_eq, ZV.val, List.any_cons, List.any_nil]
    exact downS_here (hbad e q hn σ' k1 i1)
theorem specRU16E {u : Nat} {x : Value} (hr : IsR σ r s p (.iface u x)) (h : Q (.int .i64 0) σ) : CallS E B 84 [.pointer (some ⟨r, 0, none⟩)] σ Q := by
  refine call84 (by simp) ?_
  simp only [strip, bodyOf, Tryd.f84, getD_body, keepN, bareOp_mk, lessOp_mk, lapp_cons, lapp_nil, List.map_cons, List.map_nil, array_toList, ↓reduceIte, Nat.reduceEqDiff, Bool.false_eq_true]
  simp (disch := first | assumption | simp) only [↓sbD, sbU, tyB, Nat.reduceMul, Nat.reduceSub, Int.reduceEq, Int.reduceLT, Int.reduceLE, Int.reduceNe, Nat.reduceBneDiff, Nat.reduceBEq, decide_false, gt_iff_lt, Bool.or_self, Bool.false_eq_true, Nat.mul_one, Nat.one_mul, Nat.zero_mul, ↓reduceIte, Nat.reduceEqDiff, Nat.reduceLT, Nat.reduceAdd, Nat.reduceLeDiff, reduceCtorEq, goInt, pairs, isConst, TI.isAgg, splice, boxS, Edp, dpv, Nat.beq_eq, ZV.val, List.any_cons, List.any_nil]
  refine specRNumE (k := 2) hr ?_
  simp (disch := first | assumption | simp) only [↓sbD, sbU, tyB, Nat.reduceMul, Nat.reduceSub, Int.reduceEq, Int.reduceLT, Int.reduceLE, Int.reduceNe, Nat.reduceBneDiff, Nat.reduceBEq, decide_false, gt_iff_lt, Bool.or_self, Bool.false_eq_true, Nat.mul_one, Nat.one_mul, Nat.zero_mul, ↓reduceIte, Nat.reduceEqDiff, Nat.reduceLT, Nat.reduceAdd, Nat.reduceLeDiff, reduceCtorEq, goInt, pairs, isConst, TI.isAgg, splice, boxS, Edp, dpv, Nat.beq_eq, ZV.val, List.any_cons, List.any_nil]
  exact downS_here h
theorem specRU32 (hr : IsR σ r s p .nilIface) (hp : p ≤ s.size) (hs : s.size ≤ 1000000000)
    (hok : ∀ n q, numR s p 4 = .ok (n, q) → ∀ σ', Kept σ [r] σ' [r] → IsR σ' r s q .nilIface → Q (.int .i64 (n : Int)) σ')
    (hbad : ∀ e q, numR s p 4 = .error (e, q) → ∀ σ', Kept σ [r] σ' [r] → RBad σ' r s p e q → Q (.int .i64 0) σ') : CallS E B 86 [.pointer (some ⟨r, 0, none⟩)] σ Q := by
  refine call86 (by simp) ?_
  simp only [strip, bodyOf, Tryd.f86, getD_body, keepN, bareOp_mk, lessOp_mk, lapp_cons, lapp_nil, List.map_cons, List.map_nil, array_toList, ↓reduceIte, Nat.reduceEqDiff, Bool.false_eq_true]
  simp (disch := first | assumption | simp) only [↓sbD, sbU, tyB, Nat.reduceMul, Nat.reduceSub, Int.reduceEq, Int.reduceLT, Int.reduceLE, Int.reduceNe, Nat.reduceBneDiff, Nat.reduceBEq, decide_false, gt_iff_lt, Bool.or_self, Bool.false_eq_true, Nat.mul_one, Nat.one_mul, Nat.zero_mul, ↓reduceIte, Nat.reduceEqDiff, Nat.reduceLT, Nat.reduceAdd, Nat.reduceLeDiff, reduceCtorEq, goInt, pairs, isConst, TI.isAgg, splice, boxS, Edp, dpv, Nat.beq_eq, ZV.val, List.any_cons, List.any_nil]
  refine specRNum (k := 4) (by omega) hr hp hs (fun n q hn σ' k1 i1 => ?_) fun e q hn σ' k1 i1 => ?_
  · simp (disch := first | assumption | simp) only [↓sbD, sbU, tyB, Nat.reduceMul, Nat.reduceSub, Int.reduceEq, Int.reduceLT, Int.reduceLE, Int.reduceNe, Nat.reduceBneDiff, Nat.reduceBEq, decide_false, gt_iff_lt, Bool.or_self, Bool.false_eq_true, Nat.mul_one, Nat.one_mul, Nat.zero_mul, ↓reduceIte, Nat.reduceEqDiff, Nat.reduceLT, Nat.reduceAdd, Nat.reduceLeDiff, reduceCtorEq, goInt, pairs, isConst, TI.isAgg, splice, boxS, Edp, dpv, Nat.beq_eq, ZV.val, List.any_cons, List.any_nil]
    exact downS_here (hok n q hn σ' k1 i1)
  · simp (disch := first | assumption | simp) only [↓sbD, sbU, tyB, Nat.reduceMul, Nat.reduceSub, Int.reduceEq, Int.reduceLT, Int.reduceLE, Int.reduceNe, Nat.reduceBneDiff, Nat.reduceBEq, decide_false, gt_iff_lt, Bool.or_self, Bool.false_eq_true, Nat.mul_one, Nat.one_mul, Nat.zero_mul, ↓reduceIte, Nat.reduceEqDiff, Nat.reduceLT, Nat.reduceAdd, Nat.reduceLeDiff, reduceCtorEq, goInt, pairs, isConst, TI.isAgg, splice, boxS, Edp, dpv, Nat.beq_eq, ZV.val, List.any_cons, List.any_nil]
    exact downS_here (hbad e q hn σ' k1 i1)
theorem specRU32E {u : Nat} {x : Value} (hr : IsR σ r s p (.iface u x)) (h : Q (.int .i64 0) σ) : CallS E B 86 [.pointer (some ⟨r, 0, none⟩)] σ Q := by
  refine call86 (by simp) ?_
  simp only [strip, bodyOf, Tryd.f86, getD_body, keepN, bareOp_mk, lessOp_mk, lapp_cons, lapp_nil, List.map_cons, List.map_nil, array_toList, ↓reduceIte, Nat.reduceEqDiff, Bool.false_eq_true]
  simp (disch := first | assumption | simp) only [↓sbD, sbU, tyB, Nat.reduceMul, Nat.reduceSub, Int.reduceEq, Int.reduceLT, Int.reduceLE, Int.reduceNe, Nat.reduceBneDiff, Nat.reduceBEq, decide_false, gt_iff_lt, Bool.or_self, Bool.false_eq_true, Nat.mul_one, Nat.one_mul, Nat.zero_mul, ↓reduceIte, Nat.reduceEqDiff, Nat.reduceLT, Nat.reduceAdd, Nat.reduceLeDiff, reduceCtorEq, goInt, pairs, isConst, TI.isAgg, splice, boxS, Edp, dpv, Nat.beq_eq, ZV.val, List.any_cons, List.any_nil]
  refine specRNumE (k := 4) hr ?_
  simp (disch := first | assumption | simp) only [↓sbD, sbU, tyB, Nat.reduceMul, Nat.reduceSub, Int.reduceEq, Int.reduceLT, Int.reduceLE, Int.reduceNe, Nat.reduceBneDiff, Nat.reduceBEq, decide_false, gt_iff_lt, Bool.or_self, Bool.false_eq_true, Nat.mul_one, Nat.one_mul, Nat.zero_mul, ↓reduceIte, Nat.reduceEqDiff, Nat.reduceLT, Nat.reduceAdd, Nat.reduceLeDiff, reduceCtorEq, goInt, pairs, isConst, TI.isAgg, splice, boxS, Edp, dpv, Nat.beq_eq, ZV.val, List.any_cons, List.any_nil]
  exact downS_here h
theorem numR_ok {n q k : Nat} (h : numR s p k = .ok (n, q)) : q = p + k ∧ q ≤ s.size := by
  unfold numR at h
  cases hb : rawR s p k with
  | error e => rw [hb] at h; cases h
  | ok a =>
    obtain ⟨b, q'⟩ := a
    rw [hb] at h
    injection h with h; injection h with h1 h2; subst h2
    have := rawR_ok hb
    rw [Int.toNat_natCast] at this
    exact ⟨this.2.2.1, this.2.2.2.1⟩
theorem specRBin (hr : IsR σ r s p .nilIface) (hp : p ≤ s.size) (hs : s.size ≤ 1000000000)
    (hok : ∀ v q, binR s p = .ok (v, q) → ∀ σ', Kept σ [r] σ' [r] → IsR σ' r s q .nilIface → Q (.string v) σ')
    (hbad : ∀ e q, binR s p = .error (e, q) → ∀ σ', Kept σ [r] σ' [r] → RBad σ' r s p e q → Q (.string emp) σ') : CallS E B 91 [.pointer (some ⟨r, 0, none⟩)] σ Q := by
  refine call91 (by simp) ?_
  simp only [strip, bodyOf, Tryd.f91, getD_body, keepN, bareOp_mk, lessOp_mk, lapp_cons, lapp_nil, List.map_cons, List.map_nil, array_toList, ↓reduceIte, Nat.reduceEqDiff, Bool.false_eq_true]
  simp (disch := first | assumption | simp) only [↓sbD, sbU, tyB, Nat.reduceMul, Nat.reduceSub, Int.reduceEq, Int.reduceLT, Int.reduceLE, Int.reduceNe, Nat.reduceBneDiff, Nat.reduceBEq, decide_false, gt_iff_lt, Bool.or_self, Bool.false_eq_true, Nat.mul_one, Nat.one_mul, Nat.zero_mul, ↓reduceIte, Nat.reduceEqDiff, Nat.reduceLT, Nat.reduceAdd, Nat.reduceLeDiff, reduceCtorEq, goInt, pairs, isConst, TI.isAgg, splice, boxS, Edp, dpv, Nat.beq_eq, ZV.val, List.any_cons, List.any_nil]
  refine specRAt hr ?_
  simp (disch := first | assumption | simp) only [↓sbD, sbU, tyB, Nat.reduceMul, Nat.reduceSub, Int.reduceEq, Int.reduceLT, Int.reduceLE, Int.reduceNe, Nat.reduceBneDiff, Nat.reduceBEq, decide_false, gt_iff_lt, Bool.or_self, Bool.false_eq_true, Nat.mul_one, Nat.one_mul, Nat.zero_mul, ↓reduceIte, Nat.reduceEqDiff, Nat.reduceLT, Nat.reduceAdd, Nat.reduceLeDiff, reduceCtorEq, goInt, pairs, isConst, TI.isAgg, splice, boxS, Edp, dpv, Nat.beq_eq, ZV.val, List.any_cons, List.any_nil]
  refine specRU16 hr hp hs (fun n q hn σ1 k1 i1 => ?_) fun e q hn σ1 k1 i1 => ?_
  · obtain ⟨_, hq⟩ := numR_ok hn
    simp (disch := first | assumption | simp) only [↓sbD, sbU, tyB, Nat.reduceMul, Nat.reduceSub, Int.reduceEq, Int.reduceLT, Int.reduceLE, Int.reduceNe, Nat.reduceBneDiff, Nat.reduceBEq, decide_false, gt_iff_lt, Bool.or_self, Bool.false_eq_true, Nat.mul_one, Nat.one_mul, Nat.zero_mul, ↓reduceIte, Nat.reduceEqDiff, Nat.reduceLT, Nat.reduceAdd, Nat.reduceLeDiff, reduceCtorEq, goInt, pairs, isConst, TI.isAgg, splice, boxS, Edp, dpv, Nat.beq_eq, ZV.val, List.any_cons, List.any_nil]
    refine specRRaw i1 hq hs (fun v q2 hv σ2 k2 i2 => ?_) fun e q2 hv σ2 k2 i2 => ?_
    · simp (disch := first | assumption | simp) only [↓sbD, sbU, tyB, Nat.reduceMul, Nat.reduceSub, Int.reduceEq, Int.reduceLT, Int.reduceLE, Int.reduceNe, Nat.reduceBneDiff, Nat.reduceBEq, decide_false, gt_iff_lt, Bool.or_self, Bool.false_eq_true, Nat.mul_one, Nat.one_mul, Nat.zero_mul, ↓reduceIte, Nat.reduceEqDiff, Nat.reduceLT, Nat.reduceAdd, Nat.reduceLeDiff, reduceCtorEq, goInt, pairs, isConst, TI.isAgg, splice, boxS, Edp, dpv, Nat.beq_eq, ZV.val, List.any_cons, List.any_nil]
      refine specBack i2 ?_
      simp (disch := first | assumption | simp) only [↓sbD, sbU, tyB, Nat.reduceMul, Nat.reduceSub, Int.reduceEq, Int.reduceLT, Int.reduceLE, Int.reduceNe, Nat.reduceBneDiff, Nat.reduceBEq, decide_false, gt_iff_lt, Bool.or_self, Bool.false_eq_true, Nat.mul_one, Nat.one_mul, Nat.zero_mul, ↓reduceIte, Nat.reduceEqDiff, Nat.reduceLT, Nat.reduceAdd, Nat.reduceLeDiff, reduceCtorEq, goInt, pairs, isConst, TI.isAgg, splice, boxS, Edp, dpv, Nat.beq_eq, ZV.val, List.any_cons, List.any_nil]
      exact downS_here (hok v q2 (by unfold binR; rw [hn]; exact hv) σ2 (k1.trans k2) i2)
    · obtain ⟨d, z, hd, he, i3⟩ := i2
      simp (disch := first | assumption | simp) only [↓sbD, sbU, tyB, Nat.reduceMul, Nat.reduceSub, Int.reduceEq, Int.reduceLT, Int.reduceLE, Int.reduceNe, Nat.reduceBneDiff, Nat.reduceBEq, decide_false, gt_iff_lt, Bool.or_self, Bool.false_eq_true, Nat.mul_one, Nat.one_mul, Nat.zero_mul, ↓reduceIte, Nat.reduceEqDiff, Nat.reduceLT, Nat.reduceAdd, Nat.reduceLeDiff, reduceCtorEq, goInt, pairs, isConst, TI.isAgg, splice, boxS, Edp, dpv, Nat.beq_eq, ZV.val, List.any_cons, List.any_nil]
      refine specBackE (q := p) i3 fun σ3 k3 i4 => ?_
      simp (disch := first | assumption | simp) only [↓sbD, sbU, tyB, Nat.reduceMul, Nat.reduceSub, Int.reduceEq, Int.reduceLT, Int.reduceLE, Int.reduceNe, Nat.reduceBneDiff, Nat.reduceBEq, decide_false, gt_iff_lt, Bool.or_self, Bool.false_eq_true, Nat.mul_one, Nat.one_mul, Nat.zero_mul, ↓reduceIte, Nat.reduceEqDiff, Nat.reduceLT, Nat.reduceAdd, Nat.reduceLeDiff, reduceCtorEq, goInt, pairs, isConst, TI.isAgg, splice, boxS, Edp, dpv, Nat.beq_eq, ZV.val, List.any_cons, List.any_nil]
      exact downS_here (hbad e q2 (by unfold binR; rw [hn]; exact hv) σ3 ((k1.trans k2).trans k3) ⟨d, z, hd, he, i4⟩)
  · obtain ⟨d, z, hd, he, i3⟩ := i1
    simp (disch := first | assumption | simp) only [↓sbD, sbU, tyB, Nat.reduceMul, Nat.reduceSub, Int.reduceEq, Int.reduceLT, Int.reduceLE, Int.reduceNe, Nat.reduceBneDiff, Nat.reduceBEq, decide_false, gt_iff_lt, Bool.or_self, Bool.false_eq_true, Nat.mul_one, Nat.one_mul, Nat.zero_mul, ↓reduceIte, Nat.reduceEqDiff, Nat.reduceLT, Nat.reduceAdd, Nat.reduceLeDiff, reduceCtorEq, goInt, pairs, isConst, TI.isAgg, splice, boxS, Edp, dpv, Nat.beq_eq, ZV.val, List.any_cons, List.any_nil]
    refine specRRawE i3 ?_
    simp (disch := first | assumption | simp) only [↓sbD, sbU, tyB, Nat.reduceMul, Nat.reduceSub, Int.reduceEq, Int.reduceLT, Int.reduceLE, Int.reduceNe, Nat.reduceBneDiff, Nat.reduceBEq, decide_false, gt_iff_lt, Bool.or_self, Bool.false_eq_true, Nat.mul_one, Nat.one_mul, Nat.zero_mul, ↓reduceIte, Nat.reduceEqDiff, Nat.reduceLT, Nat.reduceAdd, Nat.reduceLeDiff, reduceCtorEq, goInt, pairs, isConst, TI.isAgg, splice, boxS, Edp, dpv, Nat.beq_eq, ZV.val, List.any_cons, List.any_nil]
    refine specBackE (q := p) i3 fun σ3 k3 i4 => ?_
    simp (disch := first | assumption | simp) only [↓sbD, sbU, tyB, Nat.reduceMul, Nat.reduceSub, Int.reduceEq, Int.reduceLT, Int.reduceLE, Int.reduceNe, Nat.reduceBneDiff, Nat.reduceBEq, decide_false, gt_iff_lt, Bool.or_self, Bool.false_eq_true, Nat.mul_one, Nat.one_mul, Nat.zero_mul, ↓reduceIte, Nat.reduceEqDiff, Nat.reduceLT, Nat.reduceAdd, Nat.reduceLeDiff, reduceCtorEq, goInt, pairs, isConst, TI.isAgg, splice, boxS, Edp, dpv, Nat.beq_eq, ZV.val, List.any_cons, List.any_nil]
    exact downS_here (hbad e q (by unfold binR; rw [hn]) σ3 (k1.trans k3) ⟨d, z, hd, he, i4⟩)
theorem specRBinE {u : Nat} {x : Value} (hr : IsR σ r s p (.iface u x)) (h : ∀ σ', Kept σ [r] σ' [r] → IsR σ' r s p (.iface u x) → Q (.string emp) σ') : CallS E B 91 [.pointer (some ⟨r, 0, none⟩)] σ Q := by
  refine call91 (by simp) ?_
  simp only [strip, bodyOf, Tryd.f91, getD_body, keepN, bareOp_mk, lessOp_mk, lapp_cons, lapp_nil, List.map_cons, List.map_nil, array_toList, ↓reduceIte, Nat.reduceEqDiff, Bool.false_eq_true]
  simp (disch := first | assumption | simp) only [↓sbD, sbU, tyB, Nat.reduceMul, Nat.reduceSub, Int.reduceEq, Int.reduceLT, Int.reduceLE, Int.reduceNe, Nat.reduceBneDiff, Nat.reduceBEq, decide_false, gt_iff_lt, Bool.or_self, Bool.false_eq_true, Nat.mul_one, Nat.one_mul, Nat.zero_mul, ↓reduceIte, Nat.reduceEqDiff, Nat.reduceLT, Nat.reduceAdd, Nat.reduceLeDiff, reduceCtorEq, goInt, pairs, isConst, TI.isAgg, splice, boxS, Edp, dpv, Nat.beq_eq, ZV.val, List.any_cons, List.any_nil]
  refine specRAt hr ?_
  simp (disch := first | assumption | simp) only [↓sbD, sbU, tyB, Nat.reduceMul, Nat.reduceSub, Int.reduceEq, Int.reduceLT, Int.reduceLE, Int.reduceNe, Nat.reduceBneDiff, Nat.reduceBEq, decide_false, gt_iff_lt, Bool.or_self, Bool.false_eq_true, Nat.mul_one, Nat.one_mul, Nat.zero_mul, ↓reduceIte, Nat.reduceEqDiff, Nat.reduceLT, Nat.reduceAdd, Nat.reduceLeDiff, reduceCtorEq, goInt, pairs, isConst, TI.isAgg, splice, boxS, Edp, dpv, Nat.beq_eq, ZV.val, List.any_cons, List.any_nil]
  refine specRU16E hr ?_
  simp (disch := first | assumption | simp) only [↓sbD, sbU, tyB, Nat.reduceMul, Nat.reduceSub, Int.reduceEq, Int.reduceLT, Int.reduceLE, Int.reduceNe, Nat.reduceBneDiff, Nat.reduceBEq, decide_false, gt_iff_lt, Bool.or_self, Bool.false_eq_true, Nat.mul_one, Nat.one_mul, Nat.zero_mul, ↓reduceIte, Nat.reduceEqDiff, Nat.reduceLT, Nat.reduceAdd, Nat.reduceLeDiff, reduceCtorEq, goInt, pairs, isConst, TI.isAgg, splice, boxS, Edp, dpv, Nat.beq_eq, ZV.val, List.any_cons, List.any_nil]
  refine specRRawE hr ?_
  simp (disch := first | assumption | simp) only [↓sbD, sbU, tyB, Nat.reduceMul, Nat.reduceSub, Int.reduceEq, Int.reduceLT, Int.reduceLE, Int.reduceNe, Nat.reduceBneDiff, Nat.reduceBEq, decide_false, gt_iff_lt, Bool.or_self, Bool.false_eq_true, Nat.mul_one, Nat.one_mul, Nat.zero_mul, ↓reduceIte, Nat.reduceEqDiff, Nat.reduceLT, Nat.reduceAdd, Nat.reduceLeDiff, reduceCtorEq, goInt, pairs, isConst, TI.isAgg, splice, boxS, Edp, dpv, Nat.beq_eq, ZV.val, List.any_cons, List.any_nil]
  refine specBackE (q := p) hr fun σ3 k3 i4 => ?_
  simp (disch := first | assumption | simp) only [↓sbD, sbU, tyB, Nat.reduceMul, Nat.reduceSub, Int.reduceEq, Int.reduceLT, Int.reduceLE, Int.reduceNe, Nat.reduceBneDiff, Nat.reduceBEq, decide_false, gt_iff_lt, Bool.or_self, Bool.false_eq_true, Nat.mul_one, Nat.one_mul, Nat.zero_mul, ↓reduceIte, Nat.reduceEqDiff, Nat.reduceLT, Nat.reduceAdd, Nat.reduceLeDiff, reduceCtorEq, goInt, pairs, isConst, TI.isAgg, splice, boxS, Edp, dpv, Nat.beq_eq, ZV.val, List.any_cons, List.any_nil]
  exact downS_here (h σ3 k3 i4)
end
end Go.Proofs.YtccimdfmddomaaaDoor.AbsA
namespace Go.Proofs.YtccimdfmddomaaaDoor.AbsA
open Go AbsYtccimdfmddomaaaDoor Abs
set_option maxRecDepth 100000
set_option maxHeartbeats 4000000
set_option linter.unusedSimpArgs false
set_option linter.unusedVariables false
section
variable {σ : AHeap} {r p : Nat} {s : ByteArray} {Q : Value → AHeap → Prop}
theorem binR_ok {v : ByteArray} {q : Nat} (h : binR s p = .ok (v, q)) : q ≤ s.size ∧ p ≤ q ∧ v.size ≤ 65535 := by
  unfold binR at h
  cases hn : numR s p 2 with
  | error e => rw [hn] at h; cases h
  | ok a =>
    obtain ⟨n, q'⟩ := a
    rw [hn] at h
    have h1 := rawR_ok h
    have h2 := numR_ok hn
    refine ⟨h1.2.2.2.1, by omega, ?_⟩
    have h3 := h1.2.2.2.2
    rw [Int.toNat_natCast] at h3
    unfold numR at hn
    cases hb : rawR s p (2 : Nat) with
    | error e => rw [hb] at hn; cases hn
    | ok a =>
      obtain ⟨b, q2⟩ := a
      rw [hb] at hn
      injection hn with hn; injection hn with h4 h5
      have h6 := (rawR_ok hb).2.2.2.2
      rw [Int.toNat_natCast] at h6
      have h7 := beF_lt b b.size
      rw [h6] at h7 h4
      rw [h3, ← h4]
      omega
def mapN (r : Rd Nat) : Rd (Int × ByteArray) := match r with
  | .ok (n, q) => .ok (((n : Int), emp), q)
  | .error e => .error e
def mapS (r : Rd ByteArray) : Rd (Int × ByteArray) := match r with
  | .ok (v, q) => .ok ((0, v), q)
  | .error e => .error e
/-- a field of a kind is read -/
def rdA (k : Int) (s : ByteArray) (p : Nat) : Rd (Int × ByteArray) := if k = 1 then mapN (numR s p 1) else if k = 2 then mapN (numR s p 2) else if k = 4 then mapN (numR s p 4) else if k = 5 then mapN (varR s p) else if k = 6 then mapS (textR s p) else mapS (binR s p)
end
end Go.Proofs.YtccimdfmddomaaaDoor.AbsA
namespace Go.Proofs.YtccimdfmddomaaaDoor.AbsA
open Go AbsYtccimdfmddomaaaDoor Abs
set_option maxRecDepth 100000
set_option maxHeartbeats 4000000
set_option linter.unusedSimpArgs false
set_option linter.unusedVariables false
theorem ext_tail (x y : ByteArray) : (x ++ y).extract x.size (x ++ y).size = y := by
  obtain ⟨x⟩ := x
  obtain ⟨y⟩ := y
  apply ByteArray.ext
  simp only [ByteArray.data_extract, ByteArray.data_append, ByteArray.size, Array.size_append]
  rw [Array.extract_append]
  simp
theorem ext_mid (x m y : ByteArray) : (x ++ m ++ y).extract x.size (x.size + m.size) = m := by
  obtain ⟨x⟩ := x
  obtain ⟨m⟩ := m
  obtain ⟨y⟩ := y
  apply ByteArray.ext
  simp only [ByteArray.data_extract, ByteArray.data_append, ByteArray.size]
  rw [Array.extract_append, Array.extract_append]
  simp
theorem bt_strL {l : List Nat} {i : Nat} (h : i < l.length) (hl : l[i] < 256) : bt (str l) i = l[i] := by
  have := bt_app (s := emp) h hl
  rw [app_emp'] at this; exact this
end Go.Proofs.YtccimdfmddomaaaDoor.AbsA
namespace Go.Proofs.YtccimdfmddomaaaDoor.AbsA
open Go AbsYtccimdfmddomaaaDoor Abs
set_option maxRecDepth 100000
set_option maxHeartbeats 4000000
set_option linter.unusedSimpArgs false
set_option linter.unusedVariables false
end Go.Proofs.YtccimdfmddomaaaDoor.AbsA
namespace Go.Proofs.YtccimdfmddomaaaDoor.AbsA
open Go AbsYtccimdfmddomaaaDoor Abs
set_option maxRecDepth 100000
set_option maxHeartbeats 4000000
set_option linter.unusedSimpArgs false
set_option linter.unusedVariables false
/-- may a packet begin with a byte -/
def mayN (n : Nat) : Bool := decide (16 ≤ n) && (decide (n ≤ 255) && (if n / 16 = 3 then !(decide (n % 16 / 2 % 4 = 3)) && !(decide (8 ≤ n % 16) && decide (n % 16 / 2 % 4 = 0)) else if n / 16 = 6 ∨ n / 16 = 8 ∨ n / 16 = 10 then decide (n % 16 = 2) else decide (n % 16 = 0)))
/-- what comes next of bytes: they are too few, or none can come (an error's number, reason and place), or a packet and what is left -/
inductive Fst where
  | wait
  | bad (k r a : Nat)
  | got (f : Nat) (b t : ByteArray)
def nextF (most : Int) (s : ByteArray) : Fst :=
  if mayN (bt s 0) = true then
    match takeF (s.extract 1 s.size) 4 0 0 with
    | .inr (0, _) => .wait
    | .inr (k + 1, q) => .bad (k + 2) 129 (1 + q)
    | .inl (n, k) => if most < ((1 + k + n : Nat) : Int) then .bad 4 149 0 else if s.size < 1 + k + n then .wait else .got (bt s 0) (s.extract (1 + k) (1 + k + n)) (s.extract (1 + k + n) s.size)
  else .bad 2 129 0
abbrev Fr := Int × ByteArray
/-- all packets of bytes, the error behind them, and what is left -/
inductive AllF (most : Int) : ByteArray → List Fr → Option (Nat × Nat × Nat) → ByteArray → Prop
  | nil {s : ByteArray} (h : s.size = 0) : AllF most s [] none s
  | wait {s : ByteArray} (h : s.size ≠ 0) (hn : nextF most s = .wait) : AllF most s [] none s
  | bad {s : ByteArray} {k r a : Nat} (h : s.size ≠ 0) (hn : nextF most s = .bad k r a) : AllF most s [] (some (k, r, a)) s
  | got {s b t u : ByteArray} {f : Nat} {l : List Fr} {e : Option (Nat × Nat × Nat)} (h : s.size ≠ 0) (hn : nextF most s = .got f b t) (hr : AllF most t l e u) : AllF most s (((f : Int), b) :: l) e u
theorem takeF_pos (b : ByteArray) : ∀ (k i n : Nat), match takeF b k i n with
    | .inl (_, j) => i < j
    | .inr _ => True
  | 0, i, n => by simp only [takeF]
  | k + 1, i, n => by
    unfold takeF
    by_cases h1 : i = b.size
    · rw [if_pos h1]; trivial
    · rw [if_neg h1]
      by_cases h2 : bt b i < 128
      · rw [if_pos h2]
        by_cases h3 : bt b i = 0 ∧ 0 < i
        · rw [if_pos h3]; trivial
        · rw [if_neg h3]; show i < i + 1; omega
      · rw [if_neg h2]
        have := takeF_pos b k (i + 1) (n + bt b i % 128 * 128 ^ i)
        generalize takeF b k (i + 1) (n + bt b i % 128 * 128 ^ i) = T at this ⊢
        match T, this with
        | .inl (_, j), h => exact Nat.lt_trans (Nat.lt_succ_self i) h
        | .inr _, _ => trivial
theorem bt_appl {a p : ByteArray} {i : Nat} (h : i < a.size) : bt (a ++ p) i = bt a i := by
  have h1 : i < (a ++ p).size := by rw [size_app]; omega
  unfold bt
  rw [getElem?_pos (a ++ p) i h1, getElem?_pos a i h]
  simp only
  rw [ByteArray.getElem_append_left h]
/-- more bytes change nothing but 'too few' -/
theorem takeF_app (b p : ByteArray) : ∀ (k i n : Nat), i ≤ b.size → (∃ q, takeF b k i n = .inr (0, q)) ∨ takeF (b ++ p) k i n = takeF b k i n
  | 0, i, n, _ => .inr rfl
  | k + 1, i, n, h => by
    unfold takeF
    by_cases h1 : i = b.size
    · rw [if_pos h1]; exact .inl ⟨_, rfl⟩
    · have hsz : (b ++ p).size = b.size + p.size := size_app b p
      rw [if_neg h1, if_neg (by omega : ¬ i = (b ++ p).size), bt_appl (by omega)]
      by_cases h2 : bt b i < 128
      · rw [if_pos h2, if_pos h2]; exact .inr rfl
      · rw [if_neg h2, if_neg h2]
        exact takeF_app b p k (i + 1) _ (by omega)
theorem ext1_app (a p : ByteArray) {i : Nat} (h : i ≤ a.size) : (a ++ p).extract i (a ++ p).size = a.extract i a.size ++ p := by
  apply ByteArray.ext
  simp only [ByteArray.data_extract, ByteArray.data_append, size_app]
  have hz : a.size = a.data.size := rfl
  have hz2 : p.size = p.data.size := rfl
  apply Array.ext
  · simp only [Array.size_extract, Array.size_append]; omega
  · intro j h1 h2
    simp only [Array.size_extract, Array.size_append] at h1 h2
    by_cases hj : i + j < a.data.size
    · rw [Array.getElem_extract, Array.getElem_append_left hj, Array.getElem_append_left (by simp only [Array.size_extract]; omega), Array.getElem_extract]
    · rw [Array.getElem_extract, Array.getElem_append_right (by omega), Array.getElem_append_right (by simp only [Array.size_extract]; omega)]
      congr 1
      simp only [Array.size_extract]; omega
theorem ext2_app (a p : ByteArray) {i j : Nat} (h : j ≤ a.size) : (a ++ p).extract i j = a.extract i j := by
  apply ByteArray.ext
  simp only [ByteArray.data_extract, ByteArray.data_append]
  have hz : a.size = a.data.size := rfl
  apply Array.ext
  · simp only [Array.size_extract, Array.size_append]; omega
  · intro k h1 h2
    simp only [Array.size_extract, Array.size_append] at h1 h2
    rw [Array.getElem_extract, Array.getElem_append_left (by omega), Array.getElem_extract]
theorem nextF_app {most : Int} {s : ByteArray} (p : ByteArray) (hs : s.size ≠ 0) : match nextF most s with
    | .wait => True
    | .bad k r a => nextF most (s ++ p) = .bad k r a
    | .got f b t => nextF most (s ++ p) = .got f b (t ++ p) := by
  have hb : bt (s ++ p) 0 = bt s 0 := bt_appl (by omega)
  have hx : (s ++ p).extract 1 (s ++ p).size = s.extract 1 s.size ++ p := ext1_app s p (by omega)
  have hsz : (s ++ p).size = s.size + p.size := size_app s p
  have ht := takeF_app (s.extract 1 s.size) p 4 0 0 (by omega)
  unfold nextF
  rw [hb, hx]
  by_cases hm : mayN (bt s 0) = true
  · rw [if_pos hm, if_pos hm]
    rcases ht with ⟨q, ht⟩ | ht
    · rw [ht]; trivial
    · rw [ht]
      cases htk : takeF (s.extract 1 s.size) 4 0 0 with
      | inr a =>
        obtain ⟨k, q⟩ := a
        cases k with
        | zero => trivial
        | succ k => rfl
      | inl a =>
        obtain ⟨n, k⟩ := a
        simp only
        by_cases h1 : most < ((1 + k + n : Nat) : Int)
        · simp only [if_pos h1]
        · by_cases h2 : s.size < 1 + k + n
          · simp only [if_neg h1, if_pos h2]
          · have h3 : ¬ (s ++ p).size < 1 + k + n := by omega
            simp only [if_neg h1, if_neg h2, if_neg h3]
            rw [ext1_app s p (by omega), ext2_app s p (by omega)]
  · rw [if_neg hm, if_neg hm]
theorem AllF.more {most : Int} {s t p u : ByteArray} {l l' : List Fr} {e e' : Option (Nat × Nat × Nat)} (h : AllF most s l e t) (he : e = none) (h' : AllF most (t ++ p) l' e' u) : AllF most (s ++ p) (l ++ l') e' u := by
  induction h with
  | nil h => exact h'
  | wait h hn => exact h'
  | bad h hn => cases he
  | got h hn hr ih =>
    have := nextF_app (most := most) p h
    rw [hn] at this
    exact .got (by rw [size_app]; omega) this (ih he h')
theorem AllF.off {most : Int} {s t p : ByteArray} {l : List Fr} {e : Option (Nat × Nat × Nat)} (h : AllF most s l e t) {x : Nat × Nat × Nat} (he : e = some x) : AllF most (s ++ p) l e (t ++ p) := by
  induction h with
  | nil h => cases he
  | wait h hn => cases he
  | bad h hn =>
    have := nextF_app (most := most) p h
    rw [hn] at this
    exact .bad (by rw [size_app]; omega) this
  | got h hn hr ih =>
    have := nextF_app (most := most) p h
    rw [hn] at this
    exact .got (by rw [size_app]; omega) this (ih he)
theorem nextF_got {most : Int} {s b t : ByteArray} {f : Nat} (h : nextF most s = .got f b t) : f < 256 ∧ t.size + 2 ≤ s.size ∧ mayN f = true ∧ b.size + t.size + 2 ≤ s.size ∧ f = bt s 0 := by
  unfold nextF at h
  by_cases hm : mayN (bt s 0) = true
  · rw [if_pos hm] at h
    have hp := takeF_pos (s.extract 1 s.size) 4 0 0
    split at h
    · cases h
    · cases h
    · rename_i n k ht
      rw [ht] at hp
      have hp : 0 < k := hp
      split at h
      · cases h
      · split at h
        · cases h
        · injection h with h1 h2 h3
          subst h1; subst h2; subst h3
          refine ⟨bt_lt _ _, ?_, hm, ?_, rfl⟩ <;> simp only [ByteArray.size_extract] <;> omega
  · rw [if_neg hm] at h; cases h
theorem AllF.len {most : Int} {s t : ByteArray} {l : List Fr} {e : Option (Nat × Nat × Nat)} (h : AllF most s l e t) : 2 * l.length + t.size ≤ s.size := by
  induction h with
  | nil h => simp
  | wait h hn => simp
  | bad h hn => simp
  | got h hn hr ih =>
    have := nextF_got hn
    rw [List.length_cons]; omega
/-- a packet's bytes -/
def putF (f : Nat) (b : ByteArray) : ByteArray := str [f] ++ str (enc b.size) ++ b
theorem nextF_put {most : Int} {f : Nat} {b s : ByteArray} (hf : mayN f = true) (hb : b.size ≤ 1000000) (hm : (putF f b).size ≤ most) : nextF most (putF f b ++ s) = .got f b s := by
  have hf2 : f < 256 := by
    unfold mayN at hf
    simp only [Bool.and_eq_true, decide_eq_true_eq] at hf
    omega
  have s1 : (str [f]).size = 1 := str_size _
  have s2 : (str (enc b.size)).size = vsize b.size := by rw [str_size, enc_len]
  have hsz : (putF f b).size = 1 + vsize b.size + b.size := by unfold putF; rw [size_app, size_app, s1, s2]
  have e1 : putF f b ++ s = str [f] ++ (str (enc b.size) ++ (b ++ s)) := by
    unfold putF; rw [app_assoc, app_assoc]
  have b0 : bt (putF f b ++ s) 0 = f := by rw [e1, bt_appl (by omega)]; exact bt_strL (l := [f]) (i := 0) (by simp) hf2
  have x1 : (putF f b ++ s).extract 1 (putF f b ++ s).size = str (enc b.size) ++ (b ++ s) := by
    have := ext_tail (str [f]) (str (enc b.size) ++ (b ++ s))
    rw [s1] at this
    rw [e1]; exact this
  have hz : (putF f b ++ s).size = 1 + vsize b.size + b.size + s.size := by rw [size_app, hsz]
  have x2 : (putF f b ++ s).extract (1 + vsize b.size) (1 + vsize b.size + b.size) = b := by
    have := ext_mid (str [f] ++ str (enc b.size)) b s
    rw [size_app, s1, s2] at this
    exact this
  have x3 : (putF f b ++ s).extract (1 + vsize b.size + b.size) (putF f b ++ s).size = s := by
    have := ext_tail (putF f b) s
    rw [hsz] at this
    exact this
  unfold nextF
  rw [b0, if_pos hf, x1, take_enc (by omega)]
  simp only
  rw [if_neg (by omega), if_neg (by omega), x2, x3]
def putL : List (Nat × ByteArray) → ByteArray
  | [] => emp
  | (f, b) :: l => putF f b ++ putL l
theorem AllF.put {most : Int} : ∀ {l : List (Nat × ByteArray)}, (∀ x ∈ l, mayN x.1 = true ∧ x.2.size ≤ 1000000 ∧ ((putF x.1 x.2).size : Int) ≤ most) → AllF most (putL l) (l.map fun x => ((x.1 : Int), x.2)) none emp
  | [], _ => .nil rfl
  | (f, b) :: l, h => by
    obtain ⟨h1, h2, h3⟩ := h (f, b) (by simp)
    refine .got ?_ (nextF_put h1 h2 h3) (AllF.put fun x hx => h x (List.mem_cons_of_mem _ hx))
    show (putF f b ++ putL l).size ≠ 0
    unfold putF
    rw [size_app, size_app, size_app, str_size]
    simp only [List.length_cons]
    omega
end Go.Proofs.YtccimdfmddomaaaDoor.AbsA
