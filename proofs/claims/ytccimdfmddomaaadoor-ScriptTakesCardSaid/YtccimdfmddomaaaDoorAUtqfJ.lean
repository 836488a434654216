/-
  Parts of a law's proof.
-/
import Derived.Test.YtccimdfmddomaaaDoorAVaqfJ
namespace Go.Proofs.YtccimdfmddomaaaDoor.AbsA
open Go AbsYtccimdfmddomaaaDoor Abs
set_option maxHeartbeats 4000000
set_option linter.unusedSimpArgs false
set_option linter.unusedVariables false

set_option maxRecDepth 100000
set_option maxHeartbeats 1000000
set_option linter.unusedSimpArgs false
set_option linter.unusedVariables false
end Go.Proofs.YtccimdfmddomaaaDoor.AbsA
namespace Go.Proofs.YtccimdfmddomaaaDoor.AbsA
open Go AbsYtccimdfmddomaaaDoor Abs
set_option maxHeartbeats 4000000
set_option linter.unusedSimpArgs false
set_option linter.unusedVariables false

set_option maxRecDepth 100000
set_option maxHeartbeats 1000000
set_option linter.unusedSimpArgs false
set_option linter.unusedVariables false
def stepF (s : ByteArray) (a : Nat) : Nat := firstI (s.extract a s.size)
def walkF (s : ByteArray) (a n : Nat) : Nat × Nat := if h : a < s.size ∧ 0 < stepF s a then walkF s (a + stepF s a) (n + 1) else (n, a)
termination_by s.size - a
decreasing_by omega
/-- whether bytes are a text: the letters, or the kind of the error (from 0) and where -/
def textF (s : ByteArray) : Nat ⊕ (Nat × Nat) := if 65535 < s.size then .inr (3, 65535) else if (walkF s 0 0).2 < s.size then .inr (1, (walkF s 0 0).2) else .inl (walkF s 0 0).1
end Go.Proofs.YtccimdfmddomaaaDoor.AbsA
namespace Go.Proofs.YtccimdfmddomaaaDoor.AbsA
open Go AbsYtccimdfmddomaaaDoor Abs
set_option maxRecDepth 100000
set_option maxHeartbeats 4000000
set_option linter.unusedSimpArgs false
set_option linter.unusedVariables false
theorem gk1 : B.get 3 = .cells [sent 1] false 1 := by kernel_rfl
theorem gk2 : B.get 2 = .cells [sent 2] false 1 := by kernel_rfl
theorem gk3 : B.get 4 = .cells [sent 3] false 1 := by kernel_rfl
theorem gk4 : B.get 0 = .cells [sent 4] false 1 := by kernel_rfl
theorem gk5 : B.get 5 = .cells [sent 5] false 1 := by kernel_rfl
theorem gk6 : B.get 6 = .cells [sent 6] false 1 := by kernel_rfl
theorem gk7 : B.get 1 = .cells [sent 7] false 1 := by kernel_rfl
theorem vc_sent {n : Nat} : vcells (sent n) = [sent n] := rfl
theorem fz_sent {n : Nat} : frz E.ng E.nb (sent n) = true := frz_sent' n
theorem specNumberNil {σ : AHeap} {Q : Value → AHeap → Prop} (h : Q (.int .i64 0) σ) : CallS E B 40 [.nilIface] σ Q := by
  refine call40 (by simp) ?_
  simp only [strip, bodyOf, Tryd.f40, getD_body, keepN, bareOp_mk, lessOp_mk, lapp_cons, lapp_nil, List.map_cons, List.map_nil, array_toList, ↓reduceIte, Nat.reduceEqDiff, Bool.false_eq_true]
  simp (disch := first | assumption | simp) only [↓sbD, sbU, tyB, Nat.reduceMul, Nat.reduceSub, Int.reduceEq, Int.reduceLT, Int.reduceLE, Int.reduceNe, Nat.reduceBneDiff, Nat.reduceBEq, decide_false, gt_iff_lt, Bool.or_self, Bool.false_eq_true, Nat.mul_one, Nat.one_mul, Nat.zero_mul, ↓reduceIte, Nat.reduceEqDiff, Nat.reduceLT, Nat.reduceAdd, Nat.reduceLeDiff, reduceCtorEq, goInt, pairs, isConst, TI.isAgg, splice, boxS, Edp, dpv, Nat.beq_eq, ZV.val, List.any_cons, List.any_nil]
  exact downS_here h
theorem specNumber {d n : Nat} {v : Value} (he : ErN d v n) (hd : d ≤ 4) {σ : AHeap} {Q : Value → AHeap → Prop} (h : Q (.int .i64 (n : Int)) σ) : CallS E B 40 [v] σ Q := by
  have hv := he.val
  obtain ⟨_, n1, n2, r, a, x, e0⟩ := hv
  have e1 : ∀ t cs, abin E σ .eql t cs v .nilIface = if tyIface (E.ty.get t) then some (.bool false) else none := by subst e0; intro t cs; exact ifn_eql
  refine call40 (by simp) ?_
  simp only [strip, bodyOf, Tryd.f40, getD_body, keepN, bareOp_mk, lessOp_mk, lapp_cons, lapp_nil, List.map_cons, List.map_nil, array_toList, ↓reduceIte, Nat.reduceEqDiff, Bool.false_eq_true]
  simp (disch := first | assumption | simp) only [↓sbD, sbU, tyB, Nat.reduceMul, Nat.reduceSub, Int.reduceEq, Int.reduceLT, Int.reduceLE, Int.reduceNe, Nat.reduceBneDiff, Nat.reduceBEq, decide_false, gt_iff_lt, Bool.or_self, Bool.false_eq_true, Nat.mul_one, Nat.one_mul, Nat.zero_mul, ↓reduceIte, Nat.reduceEqDiff, Nat.reduceLT, Nat.reduceAdd, Nat.reduceLeDiff, reduceCtorEq, goInt, pairs, isConst, TI.isAgg, splice, boxS, Edp, dpv, Nat.beq_eq, ZV.val, List.any_cons, List.any_nil, e1, gk1, gk2, gk3, gk4, gk5, gk6, gk7, vc_sent, fz_sent]
  refine S_loop (fun k f σ' => σ' = σ ∧ ∃ j : Nat, k + j = 7 ∧ j < n ∧ f 16 = .int .i64 j) 7 (Le.refl _) ⟨rfl, 0, rfl, by omega, by simp (disch := first | assumption | simp) only [↓sbD, sbU, tyB, Nat.reduceMul, Nat.reduceSub, Int.reduceEq, Int.reduceLT, Int.reduceLE, Int.reduceNe, Nat.reduceBneDiff, Nat.reduceBEq, decide_false, gt_iff_lt, Bool.or_self, Bool.false_eq_true, Nat.mul_one, Nat.one_mul, Nat.zero_mul, ↓reduceIte, Nat.reduceEqDiff, Nat.reduceLT, Nat.reduceAdd, Nat.reduceLeDiff, reduceCtorEq, goInt, pairs, isConst, TI.isAgg, splice, boxS, Edp, dpv, Nat.beq_eq, ZV.val, List.any_cons, List.any_nil]; rfl⟩ ?_
  rintro k f σ' ⟨rfl, j, hk, hj, f16⟩ hf
  have f0 := hf 0 (by decide) (notMem_wr (by kernel_rfl))
  have f14 := hf 14 (by decide) (notMem_wr (by kernel_rfl))
  have f15 := hf 15 (by decide) (notMem_wr (by kernel_rfl))
  simp (disch := first | assumption | simp) only [↓sbD, sbU, tyB, Nat.reduceMul, Nat.reduceSub, Int.reduceEq, Int.reduceLT, Int.reduceLE, Int.reduceNe, Nat.reduceBneDiff, Nat.reduceBEq, decide_false, gt_iff_lt, Bool.or_self, Bool.false_eq_true, Nat.mul_one, Nat.one_mul, Nat.zero_mul, ↓reduceIte, Nat.reduceEqDiff, Nat.reduceLT, Nat.reduceAdd, Nat.reduceLeDiff, reduceCtorEq, goInt, pairs, isConst, TI.isAgg, splice, boxS, Edp, dpv, Nat.beq_eq, ZV.val, List.any_cons, List.any_nil] at f0 f14 f15
  clear hf
  have hlt : (j : Int) < ((7 : Nat) : Int) := by omega
  have hj7 : j < 7 := by omega
  have hcell : (([sent 1, sent 2, sent 3, sent 4, sent 5, sent 6, sent 7] : List Value).drop j)[0]? = some (sent (j + 1)) := by
    rcases (by omega : j = 0 ∨ j = 1 ∨ j = 2 ∨ j = 3 ∨ j = 4 ∨ j = 5 ∨ j = 6) with rfl | rfl | rfl | rfl | rfl | rfl | rfl <;> rfl
  have hw := wrap_suc (n := j) (by omega)
  simp (disch := first | assumption | simp) only [↓sbD, sbU, tyB, Nat.reduceMul, Nat.reduceSub, Int.reduceEq, Int.reduceLT, Int.reduceLE, Int.reduceNe, Nat.reduceBneDiff, Nat.reduceBEq, decide_false, gt_iff_lt, Bool.or_self, Bool.false_eq_true, Nat.mul_one, Nat.one_mul, Nat.zero_mul, ↓reduceIte, Nat.reduceEqDiff, Nat.reduceLT, Nat.reduceAdd, Nat.reduceLeDiff, reduceCtorEq, goInt, pairs, isConst, TI.isAgg, splice, boxS, Edp, dpv, Nat.beq_eq, ZV.val, List.any_cons, List.any_nil, f0, f14, f15, f16, hlt, hcell]
  refine is_step he hd ⟨by omega, by omega⟩ ?_
  by_cases hkj : n = j + 1
  · subst hkj
    simp (disch := first | assumption | simp) only [↓sbD, sbU, tyB, Nat.reduceMul, Nat.reduceSub, Int.reduceEq, Int.reduceLT, Int.reduceLE, Int.reduceNe, Nat.reduceBneDiff, Nat.reduceBEq, decide_false, gt_iff_lt, Bool.or_self, Bool.false_eq_true, Nat.mul_one, Nat.one_mul, Nat.zero_mul, ↓reduceIte, Nat.reduceEqDiff, Nat.reduceLT, Nat.reduceAdd, Nat.reduceLeDiff, reduceCtorEq, goInt, pairs, isConst, TI.isAgg, splice, boxS, Edp, dpv, Nat.beq_eq, ZV.val, List.any_cons, List.any_nil, hw]
    exact downS_here h
  · simp (disch := first | assumption | simp) only [↓sbD, sbU, tyB, Nat.reduceMul, Nat.reduceSub, Int.reduceEq, Int.reduceLT, Int.reduceLE, Int.reduceNe, Nat.reduceBneDiff, Nat.reduceBEq, decide_false, gt_iff_lt, Bool.or_self, Bool.false_eq_true, Nat.mul_one, Nat.one_mul, Nat.zero_mul, ↓reduceIte, Nat.reduceEqDiff, Nat.reduceLT, Nat.reduceAdd, Nat.reduceLeDiff, reduceCtorEq, goInt, pairs, isConst, TI.isAgg, splice, boxS, Edp, dpv, Nat.beq_eq, ZV.val, List.any_cons, List.any_nil, hkj, f16, hw]
    refine ⟨_, k - 1, _, rfl, by omega, Le.refl _, rfl, j + 1, by omega, by omega, ?_⟩
    simp (disch := first | assumption | simp) only [↓sbD, sbU, tyB, Nat.reduceMul, Nat.reduceSub, Int.reduceEq, Int.reduceLT, Int.reduceLE, Int.reduceNe, Nat.reduceBneDiff, Nat.reduceBEq, decide_false, gt_iff_lt, Bool.or_self, Bool.false_eq_true, Nat.mul_one, Nat.one_mul, Nat.zero_mul, ↓reduceIte, Nat.reduceEqDiff, Nat.reduceLT, Nat.reduceAdd, Nat.reduceLeDiff, reduceCtorEq, goInt, pairs, isConst, TI.isAgg, splice, boxS, Edp, dpv, Nat.beq_eq, ZV.val, List.any_cons, List.any_nil]
theorem zeroF : azero E 166 = some [.pointer none] := rfl
theorem handleB : isHandle ec (B.get 7) = true := by kernel_rfl
theorem as_step {r a : Int} {x : Value} {σ : AHeap} {t : Nat} {v : Value} (ht : σ.get t = .cells [v] true 0) {Q : Value → AHeap → Prop} (hq : Q (.bool true) (σ.set t (.cells [dptr [.int .i64 r, .int .i64 a, x]] true 0))) :
    CallS E B 120 [fv r a x, .iface 175 (.pointer (some ⟨t, 0, none⟩))] σ Q := by
  intro H hH
  have hh : isHandle ec (H.get 7) = true := by rw [(hH.base _ (base_live (by decide))).1]; exact handleB
  have hg := hH.get ht (by simp)
  have c : (Nat.beq 166 ec.tF && Nat.beq 175 ec.tPF && Nat.blt ec.gET ng && isHandle ec (H.get ec.gET)) = true := by
    show (true && isHandle ec (H.get 7)) = true
    rw [hh]; rfl
  refine w_special (g := asSpec ec ng) (H' := H.set t (.cells [dptr [.int .i64 r, .int .i64 a, x]] true 0)) rfl ?_ ⟨_, hH.set ht (by simp [wrt, ht]) hB, hq⟩
  show asSpec ec ng [.iface 166 (.func (.yield 0) ⟨[.int .i64 r, .int .i64 a, x]⟩ ⟨[]⟩), .iface 175 (.pointer (some ⟨t, 0, none⟩))] H = _
  simp only [asSpec]
  rw [if_pos c]
  simp [astoreAt, hg, oneCell, splice]
theorem specReason {r a : Int} {x : Value} {σ : AHeap} {Q : Value → AHeap → Prop} (h : Q (.int .i64 r) σ) : CallS E B 68 [fv r a x] σ Q := by
  refine call68 (by simp) ?_
  simp only [strip, bodyOf, Tryd.f68, getD_body, keepN, bareOp_mk, lessOp_mk, lapp_cons, lapp_nil, List.map_cons, List.map_nil, array_toList, ↓reduceIte, Nat.reduceEqDiff, Bool.false_eq_true]
  simp (disch := first | assumption | simp) only [↓sbD, sbU, tyB, Nat.reduceMul, Nat.reduceSub, Int.reduceEq, Int.reduceLT, Int.reduceLE, Int.reduceNe, Nat.reduceBneDiff, Nat.reduceBEq, decide_false, gt_iff_lt, Bool.or_self, Bool.false_eq_true, Nat.mul_one, Nat.one_mul, Nat.zero_mul, ↓reduceIte, Nat.reduceEqDiff, Nat.reduceLT, Nat.reduceAdd, Nat.reduceLeDiff, reduceCtorEq, goInt, pairs, isConst, TI.isAgg, splice, boxS, Edp, dpv, Nat.beq_eq, ZV.val, List.any_cons, List.any_nil, zeroF, AS_new]
  intro b hb
  refine as_step (AHeap.get_set_same _ _ _) ?_
  simp (disch := first | assumption | simp) only [↓sbD, sbU, tyB, Nat.reduceMul, Nat.reduceSub, Int.reduceEq, Int.reduceLT, Int.reduceLE, Int.reduceNe, Nat.reduceBneDiff, Nat.reduceBEq, decide_false, gt_iff_lt, Bool.or_self, Bool.false_eq_true, Nat.mul_one, Nat.one_mul, Nat.zero_mul, ↓reduceIte, Nat.reduceEqDiff, Nat.reduceLT, Nat.reduceAdd, Nat.reduceLeDiff, reduceCtorEq, goInt, pairs, isConst, TI.isAgg, splice, boxS, Edp, dpv, Nat.beq_eq, ZV.val, List.any_cons, List.any_nil]
  exact downS_le (Le.new' (Le.new hb) hb) h
theorem specAt {r a : Int} {x : Value} {σ : AHeap} {Q : Value → AHeap → Prop} (h : Q (.int .i64 a) σ) : CallS E B 69 [fv r a x] σ Q := by
  refine call69 (by simp) ?_
  simp only [strip, bodyOf, Tryd.f69, getD_body, keepN, bareOp_mk, lessOp_mk, lapp_cons, lapp_nil, List.map_cons, List.map_nil, array_toList, ↓reduceIte, Nat.reduceEqDiff, Bool.false_eq_true]
  simp (disch := first | assumption | simp) only [↓sbD, sbU, tyB, Nat.reduceMul, Nat.reduceSub, Int.reduceEq, Int.reduceLT, Int.reduceLE, Int.reduceNe, Nat.reduceBneDiff, Nat.reduceBEq, decide_false, gt_iff_lt, Bool.or_self, Bool.false_eq_true, Nat.mul_one, Nat.one_mul, Nat.zero_mul, ↓reduceIte, Nat.reduceEqDiff, Nat.reduceLT, Nat.reduceAdd, Nat.reduceLeDiff, reduceCtorEq, goInt, pairs, isConst, TI.isAgg, splice, boxS, Edp, dpv, Nat.beq_eq, ZV.val, List.any_cons, List.any_nil, zeroF, AS_new]
  intro b hb
  refine as_step (AHeap.get_set_same _ _ _) ?_
  simp (disch := first | assumption | simp) only [↓sbD, sbU, tyB, Nat.reduceMul, Nat.reduceSub, Int.reduceEq, Int.reduceLT, Int.reduceLE, Int.reduceNe, Nat.reduceBneDiff, Nat.reduceBEq, decide_false, gt_iff_lt, Bool.or_self, Bool.false_eq_true, Nat.mul_one, Nat.one_mul, Nat.zero_mul, ↓reduceIte, Nat.reduceEqDiff, Nat.reduceLT, Nat.reduceAdd, Nat.reduceLeDiff, reduceCtorEq, goInt, pairs, isConst, TI.isAgg, splice, boxS, Edp, dpv, Nat.beq_eq, ZV.val, List.any_cons, List.any_nil]
  exact downS_le (Le.new' (Le.new hb) hb) h
end Go.Proofs.YtccimdfmddomaaaDoor.AbsA
namespace Go.Proofs.YtccimdfmddomaaaDoor.AbsA
open Go AbsYtccimdfmddomaaaDoor Abs
set_option maxRecDepth 100000
set_option maxHeartbeats 4000000
set_option linter.unusedSimpArgs false
set_option linter.unusedVariables false
theorem size_app (a b : ByteArray) : (a ++ b).size = a.size + b.size := ByteArray.size_append
/-- what lies elsewhere stays, and what is new was not there -/
structure Kept (σ : AHeap) (fp : List Nat) (σ' : AHeap) (fp' : List Nat) : Prop where
  get : ∀ b, σ.get b ≠ .dead → b ∉ fp → σ'.get b = σ.get b
  new : ∀ b, b ∈ fp' → b ∈ fp ∨ σ.get b = .dead
theorem Kept.refl (σ : AHeap) (fp : List Nat) : Kept σ fp σ fp := ⟨fun _ _ _ => rfl, fun _ h => .inl h⟩
theorem Kept.trans {σ σ' σ'' : AHeap} {fp fp' fp'' : List Nat} (h : Kept σ fp σ' fp') (k : Kept σ' fp' σ'' fp'') : Kept σ fp σ'' fp'' where
  get b hb hn := by
    have h1 := h.get b hb hn
    rw [k.get b (by rw [h1]; exact hb) (fun hm => by rcases h.new b hm with h2 | h2; exact hn h2; exact hb h2), h1]
  new b hb := by
    rcases k.new b hb with h1 | h1
    · exact h.new b h1
    · by_cases hd : σ.get b = .dead
      · exact .inr hd
      · by_cases hn : b ∈ fp
        · exact .inl hn
        · rw [h.get b hd hn] at h1; exact .inr h1
theorem Kept.at {σ σ' : AHeap} {fp fp' : List Nat} (h : Kept σ fp σ' fp') {b : Nat} {o : AObj} (hg : σ.get b = o) (ho : o ≠ .dead) (hn : b ∉ fp) : σ'.get b = o ∧ b ∉ fp' :=
  ⟨by rw [h.get b (by rw [hg]; exact ho) hn, hg], fun hm => by rcases h.new b hm with h2 | h2; exact hn h2; rw [h2] at hg; exact ho hg.symm⟩
/-- with more blocks -/
theorem Kept.more {σ σ' : AHeap} {fp fp' l : List Nat} (h : Kept σ fp σ' fp') : Kept σ (l ++ fp) σ' (l ++ fp') where
  get b hb hn := h.get b hb (fun hm => hn (List.mem_append_right _ hm))
  new b hb := by
    rcases List.mem_append.1 hb with h1 | h1
    · exact .inl (List.mem_append_left _ h1)
    · rcases h.new b h1 with h2 | h2
      · exact .inl (List.mem_append_right _ h2)
      · exact .inr h2
theorem Kept.set {σ : AHeap} {fp : List Nat} {b : Nat} {o : AObj} (hb : b ∈ fp) : Kept σ fp (σ.set b o) fp :=
  ⟨fun c _ hn => AHeap.get_set_ne _ _ (by rintro rfl; exact hn hb), fun _ h => .inl h⟩
theorem Kept.new' {σ : AHeap} {b : Nat} {o : AObj} (hb : σ.get b = .dead) : Kept σ [] (σ.set b o) [b] :=
  ⟨fun c hc _ => AHeap.get_set_ne _ _ (by rintro rfl; exact hc hb), fun c hc => by obtain rfl := List.mem_singleton.1 hc; exact .inr hb⟩
/-- bytes in a slice that may grow, and where they lie -/
def BS (σ : AHeap) (v : Value) (a : ByteArray) (fp : List Nat) : Prop :=
  (a.size = 0 ∧ v = .slice none 0 0 ∧ fp = []) ∨ ∃ d, v = .slice (some ⟨d, 0, none⟩) a.size a.size ∧ σ.get d = .cells (bytesOf a) true 1 ∧ fp = [d] ∧ 0 < a.size
theorem BS.kept {σ σ' : AHeap} {v : Value} {a : ByteArray} {fp gp gp' : List Nat} (h : BS σ v a fp) (k : Kept σ gp σ' gp') (hd : ∀ b ∈ fp, b ∉ gp) : BS σ' v a fp := by
  rcases h with h | ⟨d, h1, h2, h3, h4⟩
  · exact .inl h
  · exact .inr ⟨d, h1, by rw [k.get d (by rw [h2]; simp) (hd d (by rw [h3]; simp))]; exact h2, h3, h4⟩
theorem BS.set {σ : AHeap} {v : Value} {a : ByteArray} {fp : List Nat} (h : BS σ v a fp) {w : Nat} {o : AObj} (hw : w ∉ fp) : BS (σ.set w o) v a fp :=
  h.kept (Kept.set (fp := [w]) (by simp)) fun b hb hm => hw (by obtain rfl := List.mem_singleton.1 hm; exact hb)
theorem get_resize {σ : AHeap} {n b : Nat} : (σ.resize n).get b = σ.get b := rfl
end Go.Proofs.YtccimdfmddomaaaDoor.AbsA
namespace Go.Proofs.YtccimdfmddomaaaDoor.AbsA
open Go AbsYtccimdfmddomaaaDoor Abs
set_option maxRecDepth 100000
set_option maxHeartbeats 4000000
set_option linter.unusedSimpArgs false
set_option linter.unusedVariables false
/-- a writer of fields: its bytes, its error -/
def IsW (σ : AHeap) (w : Nat) (a : ByteArray) (e : Value) (fp : List Nat) : Prop := ∃ v gp, σ.get w = .cells [v, e] true 0 ∧ BS σ v a gp ∧ fp = w :: gp ∧ w ∉ gp
theorem IsW.kept {σ σ' : AHeap} {w : Nat} {a : ByteArray} {e : Value} {fp gp gp' : List Nat} (h : IsW σ w a e fp) (k : Kept σ gp σ' gp') (hd : ∀ b ∈ fp, b ∉ gp) : IsW σ' w a e fp := by
  obtain ⟨v, hp, h1, h2, rfl, h4⟩ := h
  exact ⟨v, hp, by rw [k.get w (by rw [h1]; simp) (hd w (by simp))]; exact h1, h2.kept k fun b hb => hd b (List.mem_cons_of_mem _ hb), rfl, h4⟩
def unit : Value := .tuple #[]
/-- what a field's writing leaves: its bytes, or the error's number and how much further it lies -/
def WOut (σ : AHeap) (w : Nat) (a : ByteArray) (r : ByteArray ⊕ (Nat × Nat)) (fp : List Nat) : Prop := match r with
  | .inl m => IsW σ w (a ++ m) .nilIface fp
  | .inr (n, p) => ∃ d x, d ≤ 2 ∧ ErN d (fv 129 ((a.size + p : Nat) : Int) x) n ∧ IsW σ w a (fv 129 ((a.size + p : Nat) : Int) x) fp
def numB (n k : Nat) : ByteArray := if k = 4 then str [n / 16777216 % 256, n / 65536 % 256, n / 256 % 256, n % 256] else if k = 2 then str [n / 256 % 256, n % 256] else str [n % 256]
def numW (n : Int) (k : Nat) : ByteArray ⊕ (Nat × Nat) := if n < 0 ∨ (2 ^ (8 * k) : Nat) ≤ n then .inr (4, 0) else .inl (numB n.toNat k)
theorem dead_of {σ : AHeap} {b : Nat} (hb : ∀ c, ¬ σ.get c = .dead → c < b) : σ.get b = .dead := by
  rcases hg : σ.get b with _ | _ | _
  · rfl
  · exact absurd (hb b (by rw [hg]; simp)) (Nat.lt_irrefl _)
  · exact absurd (hb b (by rw [hg]; simp)) (Nat.lt_irrefl _)
theorem app_assoc (a b c : ByteArray) : a ++ b ++ c = a ++ (b ++ c) := by
  apply ByteArray.ext
  simp [ByteArray.data_append]
def lenV (σ : AHeap) (v : Value) (a : ByteArray) : Prop := abuiltin E σ .len [70] [v] = some (.int .i64 (a.size : Int), σ)
theorem BS.len {σ : AHeap} {v : Value} {a : ByteArray} {fp : List Nat} (h : BS σ v a fp) : lenV σ v a := by
  rcases h with ⟨h1, rfl, _⟩ | ⟨d, rfl, _⟩
  · unfold lenV; rw [h1]; rfl
  · rfl
theorem BS.live {σ : AHeap} {v : Value} {a : ByteArray} {fp : List Nat} (h : BS σ v a fp) {b : Nat} (hb : b ∈ fp) : ∃ cs, σ.get b = .cells cs true 1 := by
  rcases h with ⟨_, _, rfl⟩ | ⟨d, _, h2, rfl, _⟩
  · cases hb
  · obtain rfl := List.mem_singleton.1 hb; exact ⟨_, h2⟩
end Go.Proofs.YtccimdfmddomaaaDoor.AbsA
namespace Go.Proofs.YtccimdfmddomaaaDoor.AbsA
open Go AbsYtccimdfmddomaaaDoor Abs
set_option maxRecDepth 100000
set_option maxHeartbeats 4000000
set_option linter.unusedSimpArgs false
set_option linter.unusedVariables false
section
variable {σ : AHeap} {w : Nat} {a s : ByteArray} {fp : List Nat} {n : Int} {Q : Value → AHeap → Prop}
end
end Go.Proofs.YtccimdfmddomaaaDoor.AbsA
