/-
  A part of a law's proof.
-/
import Derived.Test.YtccimdfmddomaaaDoorAFrqh
namespace Go.Proofs.YtccimdfmddomaaaDoor.AbsA
open Go AbsYtccimdfmddomaaaDoor Abs
set_option maxRecDepth 100000
set_option maxHeartbeats 2000000
set_option linter.unusedSimpArgs false
set_option linter.unusedVariables false
attribute [local irreducible] afterS afterOpS opSK OpsS TrS CodeS condS condW thenS thenQ guardS guardTS outS drawS trSK consS
theorem putF_size (f : Nat) (b : ByteArray) : (putF f b).size = 1 + vsize b.size + b.size := by
  have s1 : (str [f]).size = 1 := str_size _
  have s2 : (str (enc b.size)).size = vsize b.size := by rw [str_size, enc_len]
  unfold putF; rw [size_app, size_app, s1, s2]
def castF (x : Nat × ByteArray) : Fr := ((x.1 : Int), x.2)
theorem ba_nil {b : ByteArray} (h : b.size = 0) : b = emp := by
  obtain ⟨a⟩ := b
  have : a.size = 0 := h
  rw [Array.eq_empty_of_size_eq_zero this]; rfl
theorem app_emp2 (b : ByteArray) : b ++ emp = b := app_emp' b
theorem law6 {H : AHeap} {vs : List Value} (hB0 : Ext B H) (h : ArgsTyped E H 8 [51, 5] vs) : CallW E 6 vs H fun r _ => r = .bool true := by
  obtain ⟨v, vs', rfl, h1, h2⟩ := h.cons'
  obtain ⟨u, vs', rfl, h2, h3⟩ := h2.cons'
  obtain rfl := h3.nil'
  obtain ⟨l, hl⟩ := typed_frs h1
  replace h2 := h2.1
  obtain ⟨p, rfl, hp⟩ : ∃ n : Nat, u = .int .u8 (n : Int) ∧ n < 256 := by
    obtain ⟨xs, g1, rfl⟩ := h2.one ty5 rfl
    simp only [Typed, ty5] at g1
    obtain ⟨n, rfl, g2⟩ := g1
    have g3 : 0 ≤ n ∧ n ≤ 255 := by
      simp only [Lit.wf, decide_eq_true_eq, Bool.and_eq_true] at g2
      simpa [IntKind.min, IntKind.max, IntKind.signed, IntKind.bits] using g2
    exact ⟨n.toNat, by show Value.int .u8 n = _; congr 1; omega, by omega⟩
  clear h1 h2 h3 h
  have hlen := DLf.len hl
  have key : CallS E B 6 [v, .int .u8 (p : Int)] .empty fun r _ => r = .bool true := by
    refine call6 (by simp) ?_
    simp only [strip, bodyOf, Tryd.f6, getD_body, keepN, bareOp_mk, lessOp_mk, lapp_cons, lapp_nil, List.map_cons, List.map_nil, array_toList, ↓reduceIte, Nat.reduceEqDiff, Bool.false_eq_true]
    by_cases h12 : (12 : Int) < (l.length : Int)
    · simp (disch := first | assumption | simp) only [↓sbD, sbU, tyB, Nat.reduceMul, Nat.reduceSub, Int.reduceEq, Int.reduceLT, Int.reduceLE, Int.reduceNe, Nat.reduceBneDiff, Nat.reduceBEq, decide_false, gt_iff_lt, Bool.or_self, Bool.false_eq_true, Nat.mul_one, Nat.one_mul, Nat.zero_mul, ↓reduceIte, Nat.reduceEqDiff, Nat.reduceLT, Nat.reduceAdd, Nat.reduceLeDiff, reduceCtorEq, goInt, pairs, isConst, TI.isAgg, splice, boxS, Edp, dpv, Nat.beq_eq, ZV.val, List.any_cons, List.any_nil, hlen, h12]
      refine specS16 ?_
      simp (disch := first | assumption | simp) only [↓sbD, sbU, tyB, Nat.reduceMul, Nat.reduceSub, Int.reduceEq, Int.reduceLT, Int.reduceLE, Int.reduceNe, Nat.reduceBneDiff, Nat.reduceBEq, decide_false, gt_iff_lt, Bool.or_self, Bool.false_eq_true, Nat.mul_one, Nat.one_mul, Nat.zero_mul, ↓reduceIte, Nat.reduceEqDiff, Nat.reduceLT, Nat.reduceAdd, Nat.reduceLeDiff, reduceCtorEq, goInt, pairs, isConst, TI.isAgg, splice, boxS, Edp, dpv, Nat.beq_eq, ZV.val, List.any_cons, List.any_nil]
      exact downS_here rfl
    simp (disch := first | assumption | simp) only [↓sbD, sbU, tyB, Nat.reduceMul, Nat.reduceSub, Int.reduceEq, Int.reduceLT, Int.reduceLE, Int.reduceNe, Nat.reduceBneDiff, Nat.reduceBEq, decide_false, gt_iff_lt, Bool.or_self, Bool.false_eq_true, Nat.mul_one, Nat.one_mul, Nat.zero_mul, ↓reduceIte, Nat.reduceEqDiff, Nat.reduceLT, Nat.reduceAdd, Nat.reduceLeDiff, reduceCtorEq, goInt, pairs, isConst, TI.isAgg, splice, boxS, Edp, dpv, Nat.beq_eq, ZV.val, List.any_cons, List.any_nil, hlen, h12]
    refine S_loop (fun m f σ' => ∃ (i : Nat) (ls : List (Nat × ByteArray)), m + i = l.length ∧ f 6 = .int .i64 i ∧ f 5 = .string (putL ls) ∧ ls.length = i ∧ (putL ls).size ≤ 205 * i ∧ (∀ x ∈ ls, mayN x.1 = true ∧ x.2.size ≤ 200) ∧ l.take i = ls.map castF) l.length (Le.refl _) ⟨0, [], rfl, by simp (disch := first | assumption | simp) only [↓sbD, sbU, tyB, Nat.reduceMul, Nat.reduceSub, Int.reduceEq, Int.reduceLT, Int.reduceLE, Int.reduceNe, Nat.reduceBneDiff, Nat.reduceBEq, decide_false, gt_iff_lt, Bool.or_self, Bool.false_eq_true, Nat.mul_one, Nat.one_mul, Nat.zero_mul, ↓reduceIte, Nat.reduceEqDiff, Nat.reduceLT, Nat.reduceAdd, Nat.reduceLeDiff, reduceCtorEq, goInt, pairs, isConst, TI.isAgg, splice, boxS, Edp, dpv, Nat.beq_eq, ZV.val, List.any_cons, List.any_nil]; rfl, by simp (disch := first | assumption | simp) only [↓sbD, sbU, tyB, Nat.reduceMul, Nat.reduceSub, Int.reduceEq, Int.reduceLT, Int.reduceLE, Int.reduceNe, Nat.reduceBneDiff, Nat.reduceBEq, decide_false, gt_iff_lt, Bool.or_self, Bool.false_eq_true, Nat.mul_one, Nat.one_mul, Nat.zero_mul, ↓reduceIte, Nat.reduceEqDiff, Nat.reduceLT, Nat.reduceAdd, Nat.reduceLeDiff, reduceCtorEq, goInt, pairs, isConst, TI.isAgg, splice, boxS, Edp, dpv, Nat.beq_eq, ZV.val, List.any_cons, List.any_nil]; rfl, rfl, by decide, by simp, rfl⟩ ?_
    rintro m f σ2 ⟨i, ls, hm, f6, f5, hli, hsz, hok, htk⟩ hf
    have f0 := hf 0 (by decide) (notMem_wr (by kernel_rfl))
    have f1 := hf 1 (by decide) (notMem_wr (by kernel_rfl))
    simp (disch := first | assumption | simp) only [↓sbD, sbU, tyB, Nat.reduceMul, Nat.reduceSub, Int.reduceEq, Int.reduceLT, Int.reduceLE, Int.reduceNe, Nat.reduceBneDiff, Nat.reduceBEq, decide_false, gt_iff_lt, Bool.or_self, Bool.false_eq_true, Nat.mul_one, Nat.one_mul, Nat.zero_mul, ↓reduceIte, Nat.reduceEqDiff, Nat.reduceLT, Nat.reduceAdd, Nat.reduceLeDiff, reduceCtorEq, goInt, pairs, isConst, TI.isAgg, splice, boxS, Edp, dpv, Nat.beq_eq, ZV.val, List.any_cons, List.any_nil] at f0 f1
    clear hf
    by_cases hi : (i : Int) < (l.length : Int)
    · have hi' : i < l.length := by omega
      have hia := DLf.at hl hi'
      have hwi := wrap_suc (n := i) (by omega)
      have htk2 : l.take (i + 1) = l.take i ++ [l[i]] := List.take_succ_eq_append_getElem hi'
      generalize l[i] = y at hia htk2
      obtain ⟨n, b⟩ := y
      have hac : frC (n, b) = [.int .i64 n, .string b] := rfl
      by_cases hz : (200 : Int) < (b.size : Int)
      · simp (disch := first | assumption | simp) only [↓sbD, sbU, tyB, Nat.reduceMul, Nat.reduceSub, Int.reduceEq, Int.reduceLT, Int.reduceLE, Int.reduceNe, Nat.reduceBneDiff, Nat.reduceBEq, decide_false, gt_iff_lt, Bool.or_self, Bool.false_eq_true, Nat.mul_one, Nat.one_mul, Nat.zero_mul, ↓reduceIte, Nat.reduceEqDiff, Nat.reduceLT, Nat.reduceAdd, Nat.reduceLeDiff, reduceCtorEq, goInt, pairs, isConst, TI.isAgg, splice, boxS, Edp, dpv, Nat.beq_eq, ZV.val, List.any_cons, List.any_nil, f0, f6, hlen, hi, hia, hac, hz]
        refine specS16 ?_
        simp (disch := first | assumption | simp) only [↓sbD, sbU, tyB, Nat.reduceMul, Nat.reduceSub, Int.reduceEq, Int.reduceLT, Int.reduceLE, Int.reduceNe, Nat.reduceBneDiff, Nat.reduceBEq, decide_false, gt_iff_lt, Bool.or_self, Bool.false_eq_true, Nat.mul_one, Nat.one_mul, Nat.zero_mul, ↓reduceIte, Nat.reduceEqDiff, Nat.reduceLT, Nat.reduceAdd, Nat.reduceLeDiff, reduceCtorEq, goInt, pairs, isConst, TI.isAgg, splice, boxS, Edp, dpv, Nat.beq_eq, ZV.val, List.any_cons, List.any_nil]
        exact downS_here rfl
      · simp (disch := first | assumption | simp) only [↓sbD, sbU, tyB, Nat.reduceMul, Nat.reduceSub, Int.reduceEq, Int.reduceLT, Int.reduceLE, Int.reduceNe, Nat.reduceBneDiff, Nat.reduceBEq, decide_false, gt_iff_lt, Bool.or_self, Bool.false_eq_true, Nat.mul_one, Nat.one_mul, Nat.zero_mul, ↓reduceIte, Nat.reduceEqDiff, Nat.reduceLT, Nat.reduceAdd, Nat.reduceLeDiff, reduceCtorEq, goInt, pairs, isConst, TI.isAgg, splice, boxS, Edp, dpv, Nat.beq_eq, ZV.val, List.any_cons, List.any_nil, f0, f6, hlen, hi, hia, hac, hz]
        refine specFPut (by omega) (fun hmay => ?_) fun hmay => ?_
        · simp (disch := first | assumption | simp) only [↓sbD, sbU, tyB, Nat.reduceMul, Nat.reduceSub, Int.reduceEq, Int.reduceLT, Int.reduceLE, Int.reduceNe, Nat.reduceBneDiff, Nat.reduceBEq, decide_false, gt_iff_lt, Bool.or_self, Bool.false_eq_true, Nat.mul_one, Nat.one_mul, Nat.zero_mul, ↓reduceIte, Nat.reduceEqDiff, Nat.reduceLT, Nat.reduceAdd, Nat.reduceLeDiff, reduceCtorEq, goInt, pairs, isConst, TI.isAgg, splice, boxS, Edp, dpv, Nat.beq_eq, ZV.val, List.any_cons, List.any_nil, f0, f6, hia, hac]
          refine specFCheck (fun hm2 => by rw [hmay] at hm2; cases hm2) fun _ => ?_
          simp (disch := first | assumption | simp) only [↓sbD, sbU, tyB, Nat.reduceMul, Nat.reduceSub, Int.reduceEq, Int.reduceLT, Int.reduceLE, Int.reduceNe, Nat.reduceBneDiff, Nat.reduceBEq, decide_false, gt_iff_lt, Bool.or_self, Bool.false_eq_true, Nat.mul_one, Nat.one_mul, Nat.zero_mul, ↓reduceIte, Nat.reduceEqDiff, Nat.reduceLT, Nat.reduceAdd, Nat.reduceLeDiff, reduceCtorEq, goInt, pairs, isConst, TI.isAgg, splice, boxS, Edp, dpv, Nat.beq_eq, ZV.val, List.any_cons, List.any_nil]
          refine specS16 ?_
          simp (disch := first | assumption | simp) only [↓sbD, sbU, tyB, Nat.reduceMul, Nat.reduceSub, Int.reduceEq, Int.reduceLT, Int.reduceLE, Int.reduceNe, Nat.reduceBneDiff, Nat.reduceBEq, decide_false, gt_iff_lt, Bool.or_self, Bool.false_eq_true, Nat.mul_one, Nat.one_mul, Nat.zero_mul, ↓reduceIte, Nat.reduceEqDiff, Nat.reduceLT, Nat.reduceAdd, Nat.reduceLeDiff, reduceCtorEq, goInt, pairs, isConst, TI.isAgg, splice, boxS, Edp, dpv, Nat.beq_eq, ZV.val, List.any_cons, List.any_nil]
          exact downS_here rfl
        · obtain ⟨N, rfl, n1, n2, hmN⟩ := mayI_nat hmay
          have hps := putF_size N b
          have hvs := (vsize_pos b.size).2
          have hpl : putL (ls ++ [(N, b)]) = putL ls ++ putF N b := by
            rw [putL_app]; congr 1; exact app_emp2 _
          simp only [Int.toNat_natCast]
          simp (disch := first | assumption | simp) only [↓sbD, sbU, tyB, Nat.reduceMul, Nat.reduceSub, Int.reduceEq, Int.reduceLT, Int.reduceLE, Int.reduceNe, Nat.reduceBneDiff, Nat.reduceBEq, decide_false, gt_iff_lt, Bool.or_self, Bool.false_eq_true, Nat.mul_one, Nat.one_mul, Nat.zero_mul, ↓reduceIte, Nat.reduceEqDiff, Nat.reduceLT, Nat.reduceAdd, Nat.reduceLeDiff, reduceCtorEq, goInt, pairs, isConst, TI.isAgg, splice, boxS, Edp, dpv, Nat.beq_eq, ZV.val, List.any_cons, List.any_nil, f5, f6, hwi, str_add (show (putL ls).size + (putF N b).size ≤ 1000000000 by omega)]
          refine ⟨_, m - 1, _, rfl, by omega, Le.refl _, i + 1, ls ++ [(N, b)], by omega, ?_, ?_, by simp [hli], ?_, ?_, ?_⟩
          · simp (disch := first | assumption | simp) only [↓sbD, sbU, tyB, Nat.reduceMul, Nat.reduceSub, Int.reduceEq, Int.reduceLT, Int.reduceLE, Int.reduceNe, Nat.reduceBneDiff, Nat.reduceBEq, decide_false, gt_iff_lt, Bool.or_self, Bool.false_eq_true, Nat.mul_one, Nat.one_mul, Nat.zero_mul, ↓reduceIte, Nat.reduceEqDiff, Nat.reduceLT, Nat.reduceAdd, Nat.reduceLeDiff, reduceCtorEq, goInt, pairs, isConst, TI.isAgg, splice, boxS, Edp, dpv, Nat.beq_eq, ZV.val, List.any_cons, List.any_nil]
          · simp (disch := first | assumption | simp) only [↓sbD, sbU, tyB, Nat.reduceMul, Nat.reduceSub, Int.reduceEq, Int.reduceLT, Int.reduceLE, Int.reduceNe, Nat.reduceBneDiff, Nat.reduceBEq, decide_false, gt_iff_lt, Bool.or_self, Bool.false_eq_true, Nat.mul_one, Nat.one_mul, Nat.zero_mul, ↓reduceIte, Nat.reduceEqDiff, Nat.reduceLT, Nat.reduceAdd, Nat.reduceLeDiff, reduceCtorEq, goInt, pairs, isConst, TI.isAgg, splice, boxS, Edp, dpv, Nat.beq_eq, ZV.val, List.any_cons, List.any_nil, hpl]
          · rw [hpl, size_app]; omega
          · intro x hx
            rcases List.mem_append.1 hx with hx | hx
            · exact hok x hx
            · obtain rfl := List.mem_singleton.1 hx
              exact ⟨hmN, by show b.size ≤ 200; omega⟩
          · rw [htk2, htk, List.map_append]; rfl
    · obtain rfl : i = l.length := by omega
      rw [List.take_length] at htk
      have hcw : IntKind.i64.wrap (p : Int) = (p : Int) := wrap64 ⟨by omega, by omega⟩
      have hcw2 : IntKind.i64.wrap (1 + (p : Int)) = ((1 + p : Nat) : Int) := by rw [wrap64 ⟨by omega, by omega⟩]; omega
      simp (disch := first | assumption | simp) only [↓sbD, sbU, tyB, Nat.reduceMul, Nat.reduceSub, Int.reduceEq, Int.reduceLT, Int.reduceLE, Int.reduceNe, Nat.reduceBneDiff, Nat.reduceBEq, decide_false, gt_iff_lt, Bool.or_self, Bool.false_eq_true, Nat.mul_one, Nat.one_mul, Nat.zero_mul, ↓reduceIte, Nat.reduceEqDiff, Nat.reduceLT, Nat.reduceAdd, Nat.reduceLeDiff, reduceCtorEq, goInt, pairs, isConst, TI.isAgg, splice, boxS, Edp, dpv, Nat.beq_eq, ZV.val, List.any_cons, List.any_nil, f0, f1, f6, hlen, hi]
      refine specFNew fun x σ3 hx k3 i3 => ?_
      simp (disch := first | assumption | simp) only [↓sbD, sbU, tyB, Nat.reduceMul, Nat.reduceSub, Int.reduceEq, Int.reduceLT, Int.reduceLE, Int.reduceNe, Nat.reduceBneDiff, Nat.reduceBEq, decide_false, gt_iff_lt, Bool.or_self, Bool.false_eq_true, Nat.mul_one, Nat.one_mul, Nat.zero_mul, ↓reduceIte, Nat.reduceEqDiff, Nat.reduceLT, Nat.reduceAdd, Nat.reduceLeDiff, reduceCtorEq, goInt, pairs, isConst, TI.isAgg, splice, boxS, Edp, dpv, Nat.beq_eq, ZV.val, List.any_cons, List.any_nil, f1, hcw, hcw2]
      clear k3 hx
      have hall : AllF 300 (putL ls) l none emp := by
        rw [htk]
        exact AllF.put fun x hx => ⟨(hok x hx).1, by have := (hok x hx).2; omega, by
          have := putF_size x.1 x.2
          have := (vsize_pos x.2.size).2
          have := (hok x hx).2
          omega⟩
      have F0 := f0
      refine S_loop (fun m f σ' => ∃ (fed rest w : ByteArray) (G : List Fr) (gv : Value) (fp : List Nat), m = rest.size ∧ f 5 = .string rest ∧ f 10 = gv ∧ fed ++ rest = putL ls ∧ DG frC 2 σ' gv G fp ∧ x ∉ fp ∧ IsF σ' x 300 w .nilIface ∧ AllF 300 fed G none w) (putL ls).size (Le.refl _) ⟨emp, putL ls, emp, [], _, [], rfl, by simp (disch := first | assumption | simp) only [↓sbD, sbU, tyB, Nat.reduceMul, Nat.reduceSub, Int.reduceEq, Int.reduceLT, Int.reduceLE, Int.reduceNe, Nat.reduceBneDiff, Nat.reduceBEq, decide_false, gt_iff_lt, Bool.or_self, Bool.false_eq_true, Nat.mul_one, Nat.one_mul, Nat.zero_mul, ↓reduceIte, Nat.reduceEqDiff, Nat.reduceLT, Nat.reduceAdd, Nat.reduceLeDiff, reduceCtorEq, goInt, pairs, isConst, TI.isAgg, splice, boxS, Edp, dpv, Nat.beq_eq, ZV.val, List.any_cons, List.any_nil, f5], rfl, emp_app' _, by simp (disch := first | assumption | simp) only [↓sbD, sbU, tyB, Nat.reduceMul, Nat.reduceSub, Int.reduceEq, Int.reduceLT, Int.reduceLE, Int.reduceNe, Nat.reduceBneDiff, Nat.reduceBEq, decide_false, gt_iff_lt, Bool.or_self, Bool.false_eq_true, Nat.mul_one, Nat.one_mul, Nat.zero_mul, ↓reduceIte, Nat.reduceEqDiff, Nat.reduceLT, Nat.reduceAdd, Nat.reduceLeDiff, reduceCtorEq, goInt, pairs, isConst, TI.isAgg, splice, boxS, Edp, dpv, Nat.beq_eq, ZV.val, List.any_cons, List.any_nil]; exact DG.nil, by simp, i3, .nil rfl⟩ ?_
      clear i3
      rintro m f σ4 ⟨fed, rest, w, G, gv, fp, hm2, f5, f10, hfr, hg, hxf, hx, ha⟩ hf
      have f0 := hf 0 (by decide) (notMem_wr (by kernel_rfl))
      have f9 := hf 9 (by decide) (notMem_wr (by kernel_rfl))
      have f11 := hf 11 (by decide) (notMem_wr (by kernel_rfl))
      simp (disch := first | assumption | simp) only [↓sbD, sbU, tyB, Nat.reduceMul, Nat.reduceSub, Int.reduceEq, Int.reduceLT, Int.reduceLE, Int.reduceNe, Nat.reduceBneDiff, Nat.reduceBEq, decide_false, gt_iff_lt, Bool.or_self, Bool.false_eq_true, Nat.mul_one, Nat.one_mul, Nat.zero_mul, ↓reduceIte, Nat.reduceEqDiff, Nat.reduceLT, Nat.reduceAdd, Nat.reduceLeDiff, reduceCtorEq, goInt, pairs, isConst, TI.isAgg, splice, boxS, Edp, dpv, Nat.beq_eq, ZV.val, List.any_cons, List.any_nil, F0] at f0 f9 f11
      clear hf
      have hsz2 : fed.size + rest.size = (putL ls).size := by rw [← hfr, size_app]
      by_cases h0 : (0 : Int) < (rest.size : Int)
      · have hmin : (if (rest.size : Int) < ((1 + p : Nat) : Int) then (rest.size : Int) else ((1 + p : Nat) : Int)) = ((min (1 + p) rest.size : Nat) : Int) := by split <;> omega
        have hkle : min (1 + p) rest.size ≤ rest.size := by omega
        have hkpos : 0 < min (1 + p) rest.size := by omega
        generalize min (1 + p) rest.size = k at hmin hkle hkpos
        have sl1 : ∀ τ : AHeap, aslice E τ 9 (.string rest) none (some (.int .i64 (k : Int))) none = some (.string (rest.extract 0 k)) := fun τ => slice_to ty9 hkle
        have sl2 : ∀ τ : AHeap, aslice E τ 9 (.string rest) (some (.int .i64 (k : Int))) none none = some (.string (rest.extract k rest.size)) := fun τ => slice_from ty9 hkle
        have hsp := extract_split rest hkle
        have ez1 : (rest.extract 0 k).size = k := ext_size hkle
        have ez2 : (rest.extract k rest.size).size = rest.size - k := by rw [ByteArray.size_extract]; omega
        generalize rest.extract 0 k = a at sl1 hsp ez1
        generalize rest.extract k rest.size = b at sl2 hsp ez2
        have halen := ha.len
        simp (disch := first | assumption | simp) only [↓sbD, sbU, tyB, Nat.reduceMul, Nat.reduceSub, Int.reduceEq, Int.reduceLT, Int.reduceLE, Int.reduceNe, Nat.reduceBneDiff, Nat.reduceBEq, decide_false, gt_iff_lt, Bool.or_self, Bool.false_eq_true, Nat.mul_one, Nat.one_mul, Nat.zero_mul, ↓reduceIte, Nat.reduceEqDiff, Nat.reduceLT, Nat.reduceAdd, Nat.reduceLeDiff, reduceCtorEq, goInt, pairs, isConst, TI.isAgg, splice, boxS, Edp, dpv, Nat.beq_eq, ZV.val, List.any_cons, List.any_nil, f5, f9, f11, h0, hmin, sl1, Option.map_some, Option.map_none]
        refine specFeed hx (by omega) ⟨rfl, rfl⟩ fun σ5 k5 i5 => ?_
        have hg5 := hg.kept k5 (fun b hb hm => hxf (by obtain rfl := List.mem_singleton.1 hm; exact hb))
        simp (disch := first | assumption | simp) only [↓sbD, sbU, tyB, Nat.reduceMul, Nat.reduceSub, Int.reduceEq, Int.reduceLT, Int.reduceLE, Int.reduceNe, Nat.reduceBneDiff, Nat.reduceBEq, decide_false, gt_iff_lt, Bool.or_self, Bool.false_eq_true, Nat.mul_one, Nat.one_mul, Nat.zero_mul, ↓reduceIte, Nat.reduceEqDiff, Nat.reduceLT, Nat.reduceAdd, Nat.reduceLeDiff, reduceCtorEq, goInt, pairs, isConst, TI.isAgg, splice, boxS, Edp, dpv, Nat.beq_eq, ZV.val, List.any_cons, List.any_nil, f5, f9, sl2, Option.map_some, Option.map_none]
        obtain ⟨l', e', w', ha'⟩ := AllF.total 300 _ (w ++ a) (Nat.le_refl _)
        have hwa : (w ++ a).size = w.size + a.size := size_app _ _
        have ha2 := ha.more rfl ha'
        have hfr2 : fed ++ a ++ b = putL ls := by rw [app_assoc, hsp]; exact hfr
        refine specDrain i5 (by omega) ha' fun σ6 v6 er6 k6 d6 fe6 i6 => ?_
        have hg6 := hg5.kept k6 (fun b hb hm => hxf (by obtain rfl := List.mem_singleton.1 hm; exact hb))
        have hl2 := ha2.len
        rw [List.length_append, size_app] at hl2
        cases e' with
        | some t =>
          exfalso
          have := ha2.off (p := b) rfl
          rw [hfr2] at this
          have := (this.det hall).2.1
          cases this
        | none =>
          obtain rfl := fe6
          simp (disch := first | assumption | simp) only [↓sbD, sbU, tyB, Nat.reduceMul, Nat.reduceSub, Int.reduceEq, Int.reduceLT, Int.reduceLE, Int.reduceNe, Nat.reduceBneDiff, Nat.reduceBEq, decide_false, gt_iff_lt, Bool.or_self, Bool.false_eq_true, Nat.mul_one, Nat.one_mul, Nat.zero_mul, ↓reduceIte, Nat.reduceEqDiff, Nat.reduceLT, Nat.reduceAdd, Nat.reduceLeDiff, reduceCtorEq, goInt, pairs, isConst, TI.isAgg, splice, boxS, Edp, dpv, Nat.beq_eq, ZV.val, List.any_cons, List.any_nil, f10, not_bool]
          refine app_fr hg6 d6 (by omega) fun σ7 v7 fp7 k7 g7 => ?_
          have i7 := k7.at i6 (by simp) hxf
          simp (disch := first | assumption | simp) only [↓sbD, sbU, tyB, Nat.reduceMul, Nat.reduceSub, Int.reduceEq, Int.reduceLT, Int.reduceLE, Int.reduceNe, Nat.reduceBneDiff, Nat.reduceBEq, decide_false, gt_iff_lt, Bool.or_self, Bool.false_eq_true, Nat.mul_one, Nat.one_mul, Nat.zero_mul, ↓reduceIte, Nat.reduceEqDiff, Nat.reduceLT, Nat.reduceAdd, Nat.reduceLeDiff, reduceCtorEq, goInt, pairs, isConst, TI.isAgg, splice, boxS, Edp, dpv, Nat.beq_eq, ZV.val, List.any_cons, List.any_nil]
          refine ⟨_, b.size, _, rfl, by omega, Le.refl _, fed ++ a, b, w', G ++ l', v7, fp7, rfl, ?_, rfl, hfr2, ?_, i7.2, i7.1, ha2⟩
          · simp (disch := first | assumption | simp) only [↓sbD, sbU, tyB, Nat.reduceMul, Nat.reduceSub, Int.reduceEq, Int.reduceLT, Int.reduceLE, Int.reduceNe, Nat.reduceBneDiff, Nat.reduceBEq, decide_false, gt_iff_lt, Bool.or_self, Bool.false_eq_true, Nat.mul_one, Nat.one_mul, Nat.zero_mul, ↓reduceIte, Nat.reduceEqDiff, Nat.reduceLT, Nat.reduceAdd, Nat.reduceLeDiff, reduceCtorEq, goInt, pairs, isConst, TI.isAgg, splice, boxS, Edp, dpv, Nat.beq_eq, ZV.val, List.any_cons, List.any_nil]
          · exact g7
      · have hr0 := ba_nil (b := rest) (by omega)
        subst hr0
        rw [app_emp2] at hfr
        subst hfr
        obtain ⟨rfl, _, rfl⟩ := ha.det hall
        simp (disch := first | assumption | simp) only [↓sbD, sbU, tyB, Nat.reduceMul, Nat.reduceSub, Int.reduceEq, Int.reduceLT, Int.reduceLE, Int.reduceNe, Nat.reduceBneDiff, Nat.reduceBEq, decide_false, gt_iff_lt, Bool.or_self, Bool.false_eq_true, Nat.mul_one, Nat.one_mul, Nat.zero_mul, ↓reduceIte, Nat.reduceEqDiff, Nat.reduceLT, Nat.reduceAdd, Nat.reduceLeDiff, reduceCtorEq, goInt, pairs, isConst, TI.isAgg, splice, boxS, Edp, dpv, Nat.beq_eq, ZV.val, List.any_cons, List.any_nil, f0, f5, f9, f10, h0]
        refine specFSame hg.dl hl (by omega) ?_
        simp (disch := first | assumption | simp) only [↓sbD, sbU, tyB, Nat.reduceMul, Nat.reduceSub, Int.reduceEq, Int.reduceLT, Int.reduceLE, Int.reduceNe, Nat.reduceBneDiff, Nat.reduceBEq, decide_false, gt_iff_lt, Bool.or_self, Bool.false_eq_true, Nat.mul_one, Nat.one_mul, Nat.zero_mul, ↓reduceIte, Nat.reduceEqDiff, Nat.reduceLT, Nat.reduceAdd, Nat.reduceLeDiff, reduceCtorEq, goInt, pairs, isConst, TI.isAgg, splice, boxS, Edp, dpv, Nat.beq_eq, ZV.val, List.any_cons, List.any_nil, f9]
        refine specFLeft hx ?_
        have he0 : ((emp.size : Nat) : Int) = 0 := rfl
        simp (disch := first | assumption | simp) only [↓sbD, sbU, tyB, Nat.reduceMul, Nat.reduceSub, Int.reduceEq, Int.reduceLT, Int.reduceLE, Int.reduceNe, Nat.reduceBneDiff, Nat.reduceBEq, decide_false, gt_iff_lt, Bool.or_self, Bool.false_eq_true, Nat.mul_one, Nat.one_mul, Nat.zero_mul, ↓reduceIte, Nat.reduceEqDiff, Nat.reduceLT, Nat.reduceAdd, Nat.reduceLeDiff, reduceCtorEq, goInt, pairs, isConst, TI.isAgg, splice, boxS, Edp, dpv, Nat.beq_eq, ZV.val, List.any_cons, List.any_nil, he0]
        refine specS16 ?_
        simp (disch := first | assumption | simp) only [↓sbD, sbU, tyB, Nat.reduceMul, Nat.reduceSub, Int.reduceEq, Int.reduceLT, Int.reduceLE, Int.reduceNe, Nat.reduceBneDiff, Nat.reduceBEq, decide_false, gt_iff_lt, Bool.or_self, Bool.false_eq_true, Nat.mul_one, Nat.one_mul, Nat.zero_mul, ↓reduceIte, Nat.reduceEqDiff, Nat.reduceLT, Nat.reduceAdd, Nat.reduceLeDiff, reduceCtorEq, goInt, pairs, isConst, TI.isAgg, splice, boxS, Edp, dpv, Nat.beq_eq, ZV.val, List.any_cons, List.any_nil]
        exact downS_here rfl
  exact (key H (ext_holds hB0)).mono fun r H' ⟨σ', _, h⟩ => h
end Go.Proofs.YtccimdfmddomaaaDoor.AbsA
