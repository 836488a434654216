/-
  A part of a law's proof.
-/
import Derived.Test.YtlmcjfnignbdoaaAPa
namespace Go.Proofs.Ytlmcjfnignbdoaa.Abs
open Go AbsYtlmcjfnignbdoaa
set_option maxRecDepth 100000
set_option maxHeartbeats 4000000
set_option linter.unusedSimpArgs false
set_option linter.unusedVariables false
theorem take_snoc {α : Type} {l : List α} {i : Nat} (h : i < l.length) : l.take (i + 1) = l.take i ++ [l[i]] := List.take_succ_eq_append_getElem h
def flt (K : List Int) (a : Int) : List Int := K.filter fun x => decide (x ≠ a)
theorem flt_snoc {K : List Int} {a x : Int} : flt (K ++ [x]) a = if x = a then flt K a else flt K a ++ [x] := by
  unfold flt
  rw [List.filter_append]
  by_cases h : x = a
  · rw [if_pos h, List.filter_cons_of_neg (by simp [h])]; simp
  · rw [if_neg h, List.filter_cons_of_pos (by simp [h])]; simp
theorem flt_len {K : List Int} {a : Int} : (flt K a).length ≤ K.length := List.length_filter_le _ _
theorem spec61 {H : AHeap} {rp : Nat} {last a : Int} {w : Value} {K : List Int} (hg : H.get rp = .cells [.int .i64 65535, .int .i64 last, w] true 0) (hrp : rp < H.size) (ho : OwnC H 1 w K.length (icells K)) (hK : K.length ≤ 100) :
    CallW E 61 [ptr rp, .int .i64 a] H fun r H' => ∃ w', H'.get rp = .cells [.int .i64 65535, .int .i64 last, w'] true 0 ∧ OwnC H' 1 w' (flt K a).length (icells (flt K a)) ∧ (∀ b ∈ blkOf w', H.size ≤ b ∧ b < H'.size) ∧ Did (fun b => b = rp) H H' := by
  refine call61 (by simp) ?_
  simp only [strip, bodyOf, Try.f61, getD_body, keepN, bareOp_mk, lessOp_mk, lapp_cons, lapp_nil, List.map_cons, List.map_nil, array_toList, ↓reduceIte, Nat.reduceEqDiff, Bool.false_eq_true]
  have m2 : ∀ x y z : Value, ([x, y, z] : List Value)[2]? = some z := fun _ _ _ => rfl
  simp (disch := first | assumption | simp) only [↓wbD, wbU, ↓aop, ↓reduceIte, Nat.reduceEqDiff, Nat.reduceLT, reduceCtorEq, goInt, pairs]
  refine W_loop (fun f H' => f 0 = ptr rp ∧ f 1 = .int .i64 a ∧ Ext H H' ∧ ∃ (i : Nat) (w5 : Value), i ≤ K.length ∧ f 6 = .int .i64 i ∧ f 5 = w5 ∧ OwnC H' 1 w5 (flt (K.take i) a).length (icells (flt (K.take i) a)) ∧ ∀ b ∈ blkOf w5, H.size ≤ b) (fun f _ => match f 6 with | .int _ i => K.length - i.toNat | _ => 0) ?_ ?_
  · refine ⟨?_, ?_, Ext.refl _, 0, .slice none 0 0, by omega, ?_, ?_, OwnC.nil, by simp [blkOf]⟩
    · simp (disch := first | assumption | simp) only [↓wbD, wbU, ↓aop, ↓reduceIte, Nat.reduceEqDiff, Nat.reduceLT, reduceCtorEq, goInt, pairs]
    · simp (disch := first | assumption | simp) only [↓wbD, wbU, ↓aop, ↓reduceIte, Nat.reduceEqDiff, Nat.reduceLT, reduceCtorEq, goInt, pairs]
    · simp (disch := first | assumption | simp) only [↓wbD, wbU, ↓aop, ↓reduceIte, Nat.reduceEqDiff, Nat.reduceLT, reduceCtorEq, goInt, pairs]
      rfl
    · simp (disch := first | assumption | simp) only [↓wbD, wbU, ↓aop, ↓reduceIte, Nat.reduceEqDiff, Nat.reduceLT, reduceCtorEq, goInt, pairs]
  rintro f H1 ⟨f0, f1, x1, i, w5, hi, f6, f5, o5, b5⟩
  have g1 : H1.get rp = .cells [.int .i64 65535, .int .i64 last, w] true 0 := by rw [x1.get _ hrp]; exact hg
  have ow1 : OwnC H1 1 w K.length (icells K) := ho.keep x1.size fun b hb => x1.get b (ho.sz hb).2
  have hlen := ow1.slice.alen (E := E) (ts := []) ty27
  by_cases hin : (i : Int) < (K.length : Int)
  · have hiK : i < K.length := by omega
    obtain ⟨b, c, ex, sp, rfl, hgb, _⟩ := own_ints ow1 hiK
    have hw := wrap_nat (n := i) (by omega)
    have hts := take_snoc hiK
    by_cases he : K[i] = a
    · simp (disch := first | assumption | simp) only [↓wbD, wbU, ↓aop, ↓reduceIte, Nat.reduceEqDiff, Nat.reduceLT, reduceCtorEq, goInt, pairs, f0, f1, f6, fa97_2, Nat.zero_add, Nat.mul_one, ld_cell ty27 rfl g1, m2, hlen, hin, decide_true, ia_slice ty27 ty3 hiK, ld_cell ty3 rfl hgb, icells_at hiK, he, decide_false, not_true_eq_false, hw]
      refine ⟨_, rfl, ⟨?_, ?_, x1, i + 1, w5, by omega, ?_, ?_, ?_, b5⟩, ?_⟩
      · simp (disch := first | assumption | simp) only [↓wbD, wbU, ↓aop, ↓reduceIte, Nat.reduceEqDiff, Nat.reduceLT, reduceCtorEq, goInt, pairs, f0]
      · simp (disch := first | assumption | simp) only [↓wbD, wbU, ↓aop, ↓reduceIte, Nat.reduceEqDiff, Nat.reduceLT, reduceCtorEq, goInt, pairs, f1]
      · simp (disch := first | assumption | simp) only [↓wbD, wbU, ↓aop, ↓reduceIte, Nat.reduceEqDiff, Nat.reduceLT, reduceCtorEq, goInt, pairs]
      · simp (disch := first | assumption | simp) only [↓wbD, wbU, ↓aop, ↓reduceIte, Nat.reduceEqDiff, Nat.reduceLT, reduceCtorEq, goInt, pairs, f5]
      · rw [hts, flt_snoc, if_pos he]; exact o5
      · simp (disch := first | assumption | simp) only [↓wbD, wbU, ↓aop, ↓reduceIte, Nat.reduceEqDiff, Nat.reduceLT, reduceCtorEq, goInt, pairs, f6]
        simp; omega
    · have x2 : Ext H1 (H1.alloc (.cells [ik K[i]] true 1)) := Ext.alloc _ _
      have ow2 := o5.keep x2.size fun b hb => x2.get b (o5.sz hb).2
      have hn2 : H1.size ∉ blkOf w5 := fun hb => by have := (o5.sz hb).2; omega
      have hfl : (flt (K.take i) a).length ≤ 100 := Nat.le_trans flt_len (by rw [List.length_take]; omega)
      obtain ⟨w3, H3, ha3, ow3, s3, k3, b3⟩ := ow2.append (t := 27) (e := 3) (c := H1.size) (ex := some 1) (new := [ik K[i]]) ty27 ty3 rfl zero3 rfl (by omega) (by decide) (AHeap.get_alloc_same _ _) hn2 rfl rfl (by show (_ + 1) * 8 ≤ _; omega)
      rw [AHeap.size_alloc] at s3 k3 b3
      simp (disch := first | assumption | simp) only [↓wbD, wbU, ↓aop, ↓reduceIte, Nat.reduceEqDiff, Nat.reduceLT, reduceCtorEq, goInt, pairs, f0, f1, f5, f6, fa97_2, Nat.zero_add, Nat.mul_one, ld_cell ty27 rfl g1, m2, hlen, hin, decide_true, ia_slice ty27 ty3 hiK, ld_cell ty3 rfl hgb, icells_at hiK, he, not_false_eq_true, bs27, ha3, hw]
      refine ⟨_, rfl, ⟨?_, ?_, ⟨by have := x1.size; omega, fun b hb => ?_⟩, i + 1, w3, by omega, ?_, ?_, ?_, fun b hb => ?_⟩, ?_⟩
      · simp (disch := first | assumption | simp) only [↓wbD, wbU, ↓aop, ↓reduceIte, Nat.reduceEqDiff, Nat.reduceLT, reduceCtorEq, goInt, pairs, f0]
      · simp (disch := first | assumption | simp) only [↓wbD, wbU, ↓aop, ↓reduceIte, Nat.reduceEqDiff, Nat.reduceLT, reduceCtorEq, goInt, pairs, f1]
      · have := x1.size
        rw [k3 b (by omega) (fun hm => by have := b5 b hm; omega), x2.get b (by omega), x1.get b hb]
      · simp (disch := first | assumption | simp) only [↓wbD, wbU, ↓aop, ↓reduceIte, Nat.reduceEqDiff, Nat.reduceLT, reduceCtorEq, goInt, pairs]
      · simp (disch := first | assumption | simp) only [↓wbD, wbU, ↓aop, ↓reduceIte, Nat.reduceEqDiff, Nat.reduceLT, reduceCtorEq, goInt, pairs]
      · rw [hts, flt_snoc, if_neg he, icells, chunk_snoc, List.length_append]; exact ow3
      · rcases b3 b hb with hb' | hb'
        · exact b5 b hb'
        · have := x1.size; omega
      · simp (disch := first | assumption | simp) only [↓wbD, wbU, ↓aop, ↓reduceIte, Nat.reduceEqDiff, Nat.reduceLT, reduceCtorEq, goInt, pairs, f6]
        simp; omega
  · have hie : i = K.length := by omega
    rw [hie, List.take_length] at o5
    have hst := st_cell (E := E) (t := 27) (o := 2) (v := w5) ty27 rfl g1 (by simp) o5.shape.1 o5.shape.2
    rw [show splice [.int .i64 65535, .int .i64 last, w] 2 [w5] = [.int .i64 65535, .int .i64 last, w5] from rfl] at hst
    have hlen5 := o5.slice.alen (E := E) (ts := []) ty27
    simp (disch := first | assumption | simp) only [↓wbD, wbU, ↓aop, ↓reduceIte, Nat.reduceEqDiff, Nat.reduceLT, reduceCtorEq, goInt, pairs, f0, f1, f5, f6, fa97_2, Nat.zero_add, ld_cell ty27 rfl g1, m2, hlen, hlen5, hin, decide_false, hst]
    refine ⟨w5, AHeap.get_set_same _ _ _, o5.keep (by rw [AHeap.size_set]; exact Nat.le_refl _) fun b hb => AHeap.get_set_ne _ _ (by rintro rfl; exact o5.off g1 (by omega) hb), fun b hb => ⟨b5 b hb, by rw [AHeap.size_set]; exact (o5.sz hb).2⟩, x1.did.trans (did_set (.inl rfl) (fun cs wr e => by rw [g1] at e; cases e))⟩
/-- the flights behind a set -/
def fnew (p : Fl × Value) (to : Int) : Fl × Value := (p.1.put to, p.2)
def pr (F : FS) (k : Nat) (to : Int) : Nat → FS
  | 0 => []
  | i + 1 => pr F k to i ++ (match F[i]? with
    | none => []
    | some p => if i = k then (if to = 0 then [] else [fnew p to]) else [p])
theorem pr_take {F : FS} {k : Nat} (hk : k < F.length) (to : Int) : ∀ i, i ≤ F.length → pr F k to i = if to = 0 then (F.take i).eraseIdx k else (F.take i).set k (fnew F[k] to)
  | 0, _ => by simp [pr]
  | i + 1, hi => by
    have hi' : i < F.length := by omega
    have hl : (F.take i).length = i := by rw [List.length_take]; omega
    simp only [pr]
    rw [pr_take hk to i (by omega), take_snoc hi', List.getElem?_eq_getElem hi']
    simp only []
    by_cases ht : to = 0
    · simp only [if_pos ht]
      by_cases hik : i = k
      · subst hik
        rw [if_pos rfl, List.append_nil, List.eraseIdx_of_length_le (by omega)]
        have := erase_mid (F.take i) F[i] []
        rw [hl, List.append_nil] at this
        exact this.symm
      · rw [if_neg hik]
        by_cases hlt : k < i
        · rw [List.eraseIdx_append_of_lt_length (by omega)]
        · rw [List.eraseIdx_of_length_le (by omega), List.eraseIdx_of_length_le (by rw [List.length_append, hl]; simp; omega)]
    · simp only [if_neg ht]
      by_cases hik : i = k
      · subst hik
        rw [if_pos rfl, List.set_append_right _ _ (by omega), hl, Nat.sub_self, List.set_eq_of_length_le (by omega)]
        rfl
      · rw [if_neg hik]
        by_cases hlt : k < i
        · rw [List.set_append_left _ _ (by omega)]
        · rw [List.set_eq_of_length_le (by omega), List.set_eq_of_length_le (by rw [List.length_append, hl]; simp; omega)]
theorem pr_all {F : FS} {k : Nat} (hk : k < F.length) (to : Int) : pr F k to F.length = if to = 0 then F.eraseIdx k else F.set k (fnew F[k] to) := by
  rw [pr_take hk to _ (Nat.le_refl _), List.take_length]
theorem pr_len {F : FS} {k : Nat} {to : Int} : ∀ i, (pr F k to i).length ≤ i
  | 0 => by simp [pr]
  | i + 1 => by
    have := pr_len (F := F) (k := k) (to := to) i
    simp only [pr, List.length_append]
    split
    · simp; omega
    · split
      · split
        · simp; omega
        · simp; omega
      · simp; omega
theorem pr_mem {F : FS} {H : AHeap} {k : Nat} {to : Int} (hm : Mems H F) : ∀ i, Mems H (pr F k to i)
  | 0 => fun p hp => by simp [pr] at hp
  | i + 1 => fun p hp => by
    simp only [pr] at hp
    rcases List.mem_append.1 hp with hp | hp
    · exact pr_mem hm i p hp
    · split at hp
      · simp at hp
      · rename_i q hq
        have hqF : q ∈ F := by
          obtain ⟨h1, h2⟩ := List.getElem?_eq_some_iff.1 hq
          rw [← h2]; exact List.getElem_mem h1
        split at hp
        · split at hp
          · simp at hp
          · obtain rfl := List.mem_singleton.1 hp
            exact hm q hqF
        · obtain rfl := List.mem_singleton.1 hp
          exact hm p hqF
end Go.Proofs.Ytlmcjfnignbdoaa.Abs
