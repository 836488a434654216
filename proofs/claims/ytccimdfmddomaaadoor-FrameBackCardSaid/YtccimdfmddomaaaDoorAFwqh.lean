/-
  A part of a law's proof.
-/
import Derived.Test.YtccimdfmddomaaaDoorAFwqe
namespace Go.Proofs.YtccimdfmddomaaaDoor.AbsA
open Go AbsYtccimdfmddomaaaDoor Abs
set_option maxRecDepth 100000
set_option maxHeartbeats 4000000
set_option linter.unusedSimpArgs false
set_option linter.unusedVariables false
theorem chunks {α : Type} {enc : α → List Value} {sz : Nat} (hsz : ∀ a, (enc a).length = sz) : ∀ (n : Nat) (cs : List Value), cs.length = n * sz → (∀ k, k < n → ∃ a, (cs.drop (k * sz)).take sz = enc a) → ∃ l : List α, l.length = n ∧ cs = l.flatMap enc
  | 0, cs, hl, _ => ⟨[], rfl, by rw [Nat.zero_mul] at hl; exact List.eq_nil_of_length_eq_zero hl⟩
  | n + 1, cs, hl, h => by
    obtain ⟨a, ha⟩ := h 0 (by omega)
    rw [Nat.zero_mul, List.drop_zero] at ha
    obtain ⟨l, h1, h2⟩ := chunks hsz n (cs.drop sz) (by rw [List.length_drop, hl, Nat.succ_mul]; omega) (fun k hk => by
      obtain ⟨b, hb⟩ := h (k + 1) (by omega)
      refine ⟨b, ?_⟩
      rw [← hb, List.drop_drop, Nat.succ_mul, Nat.add_comm])
    exact ⟨a :: l, by simp [h1], by rw [List.flatMap_cons, ← ha, ← h2, List.take_append_drop]⟩
/-- a list of things that lie in a slice which nobody writes -/
def DL {α : Type} (enc : α → List Value) (sz : Nat) (v : Value) (l : List α) : Prop := (l = [] ∧ v = .slice none 0 0) ∨ ∃ m, v = dsl m sz l.length (l.flatMap enc)
theorem one_of {H : AHeap} {d t : Nat} {x : Value} {l : List Value} (h : Typed E H d t ((x :: l).take 1)) : Typed E H d t [x] := by simpa using h
theorem typed_act {H : AHeap} {d : Nat} {xs : List Value} (h : Typed E H d 74 xs) : ∃ a : Act, xs = actC a := by
  cases d with
  | zero => exact h.elim
  | succ d =>
    simp only [Typed, ty74] at h
    obtain ⟨hl, hp⟩ := h
    match xs, hl with
    | [x, y, z], _ =>
      obtain ⟨j, j1, j2⟩ := hp (0, 3, false) (by simp)
      rw [ty3] at j1; injection j1 with j1; subst j1
      obtain ⟨n1, e1, _⟩ := typed_int (by simpa using j2)
      obtain ⟨j, j1, j2⟩ := hp (1, 3, false) (by simp)
      rw [ty3] at j1; injection j1 with j1; subst j1
      obtain ⟨n2, e2, _⟩ := typed_int (by simpa using j2)
      obtain ⟨j, j1, j2⟩ := hp (2, 9, false) (by simp)
      rw [ty9] at j1; injection j1 with j1; subst j1
      obtain ⟨s, e3, _⟩ := typed_str (by simpa using j2)
      simp only [List.cons.injEq, and_true] at e1 e2 e3
      exact ⟨⟨n1, n2, s⟩, by rw [e1, e2, e3]; rfl⟩
theorem typed_acts {H : AHeap} {d : Nat} {v : Value} (h : ArgTyped E H d 66 v) : ∃ l : List Act, DL actC 3 v l := by
  obtain ⟨xs, h1, rfl⟩ := h.one ty66 rfl
  cases d with
  | zero => exact h1.elim
  | succ d =>
    simp only [Typed, ty66] at h1
    rcases h1 with rfl | ⟨h2, _⟩ | ⟨_, n, j, cs, hj, rfl, hl, hk⟩
    · exact ⟨[], .inl ⟨rfl, rfl⟩⟩
    · cases h2
    · rw [ty74] at hj; injection hj with hj; subst hj
      obtain ⟨l, h3, h4⟩ := chunks (enc := actC) (fun a => rfl) n cs hl fun k hk' => typed_act (hk k hk')
      exact ⟨l, .inr ⟨0, by rw [h3, ← h4]; rfl⟩⟩
theorem DL.len {v : Value} {l : List Act} (h : DL actC 3 v l) (σ : AHeap) : abuiltin E σ .len [66] [v] = some (.int .i64 (l.length : Int), σ) := by
  rcases h with ⟨rfl, rfl⟩ | ⟨m, rfl⟩ <;> rfl
theorem DL.at {v : Value} {l : List Act} (h : DL actC 3 v l) {i : Nat} (hi : i < l.length) : aindexAddr E 66 v (.int .i64 (i : Int)) = some (dptr (actC l[i] ++ (l.drop (i + 1)).flatMap actC)) := by
  rcases h with ⟨rfl, rfl⟩ | ⟨m, rfl⟩
  · simp at hi
  · rw [ia_dsl hi, drop_flat actC_len hi]; rfl
def fewP (l : List Act) : Prop := l.length ≤ 20 ∧ ∀ a ∈ l, a.s.size ≤ 200
theorem specFew {σ : AHeap} {v : Value} {l : List Act} (h : DL actC 3 v l) {Q : Value → AHeap → Prop} (hq : ∀ b : Bool, (b = true → fewP l) → Q (.bool b) σ) : CallS E B 32 [v] σ Q := by
  refine call32 (by simp) ?_
  simp only [strip, bodyOf, Tryd.f32, getD_body, keepN, bareOp_mk, lessOp_mk, lapp_cons, lapp_nil, List.map_cons, List.map_nil, array_toList, ↓reduceIte, Nat.reduceEqDiff, Bool.false_eq_true]
  simp (disch := first | assumption | simp) only [↓sbD, sbU, tyB, Nat.reduceMul, Nat.reduceSub, Int.reduceEq, Int.reduceLT, Int.reduceLE, Int.reduceNe, Nat.reduceBneDiff, Nat.reduceBEq, decide_false, gt_iff_lt, Bool.or_self, Bool.false_eq_true, Nat.mul_one, Nat.one_mul, Nat.zero_mul, ↓reduceIte, Nat.reduceEqDiff, Nat.reduceLT, Nat.reduceAdd, Nat.reduceLeDiff, reduceCtorEq, goInt, pairs, isConst, TI.isAgg, splice, boxS, Edp, dpv, Nat.beq_eq, ZV.val, List.any_cons, List.any_nil]
  refine S_loop (fun k f σ' => σ' = σ ∧ ∃ i : Nat, i ≤ 20 ∧ i ≤ l.length ∧ k + i = l.length ∧ f 3 = .int .i64 i ∧ ∀ j (hj : j < l.length), j < i → (l[j]).s.size ≤ 200) l.length (Le.refl _) ⟨rfl, 0, by omega, by omega, rfl, by simp (disch := first | assumption | simp) only [↓sbD, sbU, tyB, Nat.reduceMul, Nat.reduceSub, Int.reduceEq, Int.reduceLT, Int.reduceLE, Int.reduceNe, Nat.reduceBneDiff, Nat.reduceBEq, decide_false, gt_iff_lt, Bool.or_self, Bool.false_eq_true, Nat.mul_one, Nat.one_mul, Nat.zero_mul, ↓reduceIte, Nat.reduceEqDiff, Nat.reduceLT, Nat.reduceAdd, Nat.reduceLeDiff, reduceCtorEq, goInt, pairs, isConst, TI.isAgg, splice, boxS, Edp, dpv, Nat.beq_eq, ZV.val, List.any_cons, List.any_nil]; rfl, fun j _ hj => by omega⟩ ?_
  rintro k f σ' ⟨rfl, i, h20, hil, hk, f3, hall⟩ hf
  have f0 := hf 0 (by decide) (notMem_wr (by kernel_rfl))
  simp (disch := first | assumption | simp) only [↓sbD, sbU, tyB, Nat.reduceMul, Nat.reduceSub, Int.reduceEq, Int.reduceLT, Int.reduceLE, Int.reduceNe, Nat.reduceBneDiff, Nat.reduceBEq, decide_false, gt_iff_lt, Bool.or_self, Bool.false_eq_true, Nat.mul_one, Nat.one_mul, Nat.zero_mul, ↓reduceIte, Nat.reduceEqDiff, Nat.reduceLT, Nat.reduceAdd, Nat.reduceLeDiff, reduceCtorEq, goInt, pairs, isConst, TI.isAgg, splice, boxS, Edp, dpv, Nat.beq_eq, ZV.val, List.any_cons, List.any_nil] at f0
  clear hf
  have hlen := h.len
  by_cases h1 : (i : Int) < (l.length : Int)
  · by_cases h2 : (i : Int) < 20
    · have hi : i < l.length := by omega
      have hia := h.at hi
      have hw := wrap_suc (n := i) (by omega)
      by_cases hb : (200 : Int) < ((l[i]).s.size : Int)
      · simp (disch := first | assumption | simp) only [↓sbD, sbU, tyB, Nat.reduceMul, Nat.reduceSub, Int.reduceEq, Int.reduceLT, Int.reduceLE, Int.reduceNe, Nat.reduceBneDiff, Nat.reduceBEq, decide_false, gt_iff_lt, Bool.or_self, Bool.false_eq_true, Nat.mul_one, Nat.one_mul, Nat.zero_mul, ↓reduceIte, Nat.reduceEqDiff, Nat.reduceLT, Nat.reduceAdd, Nat.reduceLeDiff, reduceCtorEq, goInt, pairs, isConst, TI.isAgg, splice, boxS, Edp, dpv, Nat.beq_eq, ZV.val, List.any_cons, List.any_nil, f0, f3, hlen, h1, h2, hia, actC, hb]
        exact downS_here (hq false (fun h => by cases h))
      · simp (disch := first | assumption | simp) only [↓sbD, sbU, tyB, Nat.reduceMul, Nat.reduceSub, Int.reduceEq, Int.reduceLT, Int.reduceLE, Int.reduceNe, Nat.reduceBneDiff, Nat.reduceBEq, decide_false, gt_iff_lt, Bool.or_self, Bool.false_eq_true, Nat.mul_one, Nat.one_mul, Nat.zero_mul, ↓reduceIte, Nat.reduceEqDiff, Nat.reduceLT, Nat.reduceAdd, Nat.reduceLeDiff, reduceCtorEq, goInt, pairs, isConst, TI.isAgg, splice, boxS, Edp, dpv, Nat.beq_eq, ZV.val, List.any_cons, List.any_nil, f0, f3, hlen, h1, h2, hia, actC, hb, hw]
        refine ⟨_, k - 1, _, rfl, by omega, Le.refl _, rfl, i + 1, by omega, by omega, by omega, by simp (disch := first | assumption | simp) only [↓sbD, sbU, tyB, Nat.reduceMul, Nat.reduceSub, Int.reduceEq, Int.reduceLT, Int.reduceLE, Int.reduceNe, Nat.reduceBneDiff, Nat.reduceBEq, decide_false, gt_iff_lt, Bool.or_self, Bool.false_eq_true, Nat.mul_one, Nat.one_mul, Nat.zero_mul, ↓reduceIte, Nat.reduceEqDiff, Nat.reduceLT, Nat.reduceAdd, Nat.reduceLeDiff, reduceCtorEq, goInt, pairs, isConst, TI.isAgg, splice, boxS, Edp, dpv, Nat.beq_eq, ZV.val, List.any_cons, List.any_nil], fun j hj hji => ?_⟩
        rcases (by omega : j < i ∨ j = i) with h3 | rfl
        · exact hall j hj h3
        · omega
    · have h3 : i = 20 := by omega
      have h4 : ¬ (l.length : Int) ≤ 20 := by omega
      simp (disch := first | assumption | simp) only [↓sbD, sbU, tyB, Nat.reduceMul, Nat.reduceSub, Int.reduceEq, Int.reduceLT, Int.reduceLE, Int.reduceNe, Nat.reduceBneDiff, Nat.reduceBEq, decide_false, gt_iff_lt, Bool.or_self, Bool.false_eq_true, Nat.mul_one, Nat.one_mul, Nat.zero_mul, ↓reduceIte, Nat.reduceEqDiff, Nat.reduceLT, Nat.reduceAdd, Nat.reduceLeDiff, reduceCtorEq, goInt, pairs, isConst, TI.isAgg, splice, boxS, Edp, dpv, Nat.beq_eq, ZV.val, List.any_cons, List.any_nil, f0, f3, hlen, h1, h2, h4]
      exact downS_here (hq false (fun h => by cases h))
  · have hi : i = l.length := by omega
    have h4 : (l.length : Int) ≤ 20 := by omega
    simp (disch := first | assumption | simp) only [↓sbD, sbU, tyB, Nat.reduceMul, Nat.reduceSub, Int.reduceEq, Int.reduceLT, Int.reduceLE, Int.reduceNe, Nat.reduceBneDiff, Nat.reduceBEq, decide_false, gt_iff_lt, Bool.or_self, Bool.false_eq_true, Nat.mul_one, Nat.one_mul, Nat.zero_mul, ↓reduceIte, Nat.reduceEqDiff, Nat.reduceLT, Nat.reduceAdd, Nat.reduceLeDiff, reduceCtorEq, goInt, pairs, isConst, TI.isAgg, splice, boxS, Edp, dpv, Nat.beq_eq, ZV.val, List.any_cons, List.any_nil, f0, f3, hlen, h1, h4]
    refine downS_here (hq true fun _ => ⟨by omega, fun a ha => ?_⟩)
    obtain ⟨j, hj, rfl⟩ := List.getElem_of_mem ha
    exact hall j hj (by omega)
theorem numB_le {n k : Nat} : (numB n k).size ≤ 4 := numB_size n k
theorem numW_size {n : Int} {k : Nat} {m : ByteArray} (h : numW n k = .inl m) : m.size ≤ 4 := by
  unfold numW at h
  split at h
  · cases h
  · injection h with h; subst h; exact numB_size _ _
theorem binW_size {s m : ByteArray} (h : binW s = .inl m) : m.size ≤ s.size + 4 := by
  unfold binW at h
  split at h
  · cases h
  · injection h with h; subst h; rw [size_app]; have := numB_size s.size 2; omega
theorem actW_size {a : Act} {m : ByteArray} (h : actW a = .inl m) : m.size ≤ a.s.size + 4 := by
  unfold actW at h
  split at h
  · have := numW_size h; omega
  split at h
  · have := numW_size h; omega
  split at h
  · have := numW_size h; omega
  split at h
  · unfold varW at h
    split at h
    · cases h
    · injection h with h; subst h; rw [str_size, enc_len]; have := vsize_pos a.n.toNat; omega
  split at h
  · unfold textW at h
    split at h
    · cases h
    · exact binW_size h
  split at h
  · exact binW_size h
  split at h
  · injection h with h; subst h; omega
  · injection h with h; subst h; have : emp.size = 0 := rfl; omega
end Go.Proofs.YtccimdfmddomaaaDoor.AbsA
