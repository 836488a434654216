/-
  Parts of a law's proof.
-/
import Derived.Test.YtdiekikcnfjlnaaGreatAEnvD
import Derived.Test.YtdiekikcnfjlnaaGreatAMf
import Derived.Test.YtdiekikcnfjlnaaGreatAEnvF
namespace Go.Proofs.YtdiekikcnfjlnaaGreat.AbsA
open Go AbsYtdiekikcnfjlnaaGreat Abs
set_option maxRecDepth 100000
set_option maxHeartbeats 4000000
set_option linter.unusedSimpArgs false
set_option linter.unusedVariables false
def resC (v : Option Value) (r : Option (List Value)) : Option (List Value) := match v, r with
  | some v, some r => some (v :: r)
  | _, _ => none
theorem res_cellc {E : Env} {H : AHeap} {n : Nat} {f : Nat → Value} {a t : Nat} {r : List ResultVar} : AbsYtdiekikcnfjlnaaGreat.results E (L n f) H (.cell a t :: r) = resC (aload E H t (if a < n then f a else undef)) (AbsYtdiekikcnfjlnaaGreat.results E (L n f) H r) := by
  have e : (L n f).getD a undef = if a < n then f a else undef := aev_tmp (t := a)
  simp only [AbsYtdiekikcnfjlnaaGreat.results, e]
  cases aload E H t (if a < n then f a else undef) <;> cases AbsYtdiekikcnfjlnaaGreat.results E (L n f) H r <;> rfl
theorem resC_some {v : Value} {r : List Value} : resC (some v) (some r) = some (v :: r) := rfl
def lastP (K : List Value → AHeap → Prop) : List (List Value × AHeap) → Prop
  | [] => False
  | [s] => K s.1 s.2
  | _ :: s :: l => lastP K (s :: l)
theorem lastP_cc {K : List Value → AHeap → Prop} {a b : List Value × AHeap} {l : List (List Value × AHeap)} : lastP K (a :: b :: l) = lastP K (b :: l) := rfl
theorem lastP_one {K : List Value → AHeap → Prop} {A : List Value} {H : AHeap} : lastP K [(A, H)] = K A H := rfl
theorem lastP_get {K : List Value → AHeap → Prop} : ∀ {l : List (List Value × AHeap)}, lastP K l → ∃ A H, l.getLast? = some (A, H) ∧ K A H
  | [], h => h.elim
  | [(A, H)], h => ⟨A, H, rfl, h⟩
  | _ :: s :: l, h => by
    obtain ⟨A, H, h1, h2⟩ := lastP_get (l := s :: l) h
    exact ⟨A, H, by rw [List.getLast?_cons_cons]; exact h1, h2⟩
theorem drawS_l {ops : Array Oper} {Q : AExit → List Value → AHeap → Prop} {tr : List (List Value × AHeap)} {fl : List (Nat × Nat)} (hf : floatPairs ops = fl) (h1 : fl.all (floatS B ops tr) = true) (h2 : lastP (Q .normal) tr) : drawS B ops Q tr := by
  obtain ⟨A, H, h3, h4⟩ := lastP_get h2
  exact drawS_of hf ⟨h1, A, H, h3, h4⟩
structure Kept (σ : AHeap) (fp : List Nat) (σ' : AHeap) (fp' : List Nat) : Prop where
  get : ∀ b, σ.get b ≠ .dead → b ∉ fp → σ'.get b = σ.get b
  new : ∀ b, b ∈ fp' → b ∈ fp ∨ σ.get b = .dead
theorem Kept.refl (σ : AHeap) (fp : List Nat) : Kept σ fp σ fp := ⟨fun _ _ _ => rfl, fun _ h => .inl h⟩
theorem Kept.trans {σ σ' σ'' : AHeap} {fp fp' fp'' : List Nat} (h : Kept σ fp σ' fp') (k : Kept σ' fp' σ'' fp'') : Kept σ fp σ'' fp'' where
  get b hb hn := by
    have h1 := h.get b hb hn
    rw [k.get b (by rw [h1]; exact hb) (fun hm => by rcases h.new b hm with h2 | h2; exact hn h2; exact hb h2), h1]
  new b hb := by
    rcases k.new b hb with h1 | h1
    · exact h.new b h1
    · by_cases hd : σ.get b = .dead
      · exact .inr hd
      · by_cases hn : b ∈ fp
        · exact .inl hn
        · rw [h.get b hd hn] at h1; exact .inr h1
theorem Kept.at {σ σ' : AHeap} {fp fp' : List Nat} (h : Kept σ fp σ' fp') {b : Nat} {o : AObj} (hg : σ.get b = o) (ho : o ≠ .dead) (hn : b ∉ fp) : σ'.get b = o ∧ b ∉ fp' :=
  ⟨by rw [h.get b (by rw [hg]; exact ho) hn, hg], fun hm => by rcases h.new b hm with h2 | h2; exact hn h2; rw [h2] at hg; exact ho hg.symm⟩
theorem Kept.set {σ : AHeap} {fp : List Nat} {b : Nat} {o : AObj} (hb : b ∈ fp) : Kept σ fp (σ.set b o) fp :=
  ⟨fun c _ hn => AHeap.get_set_ne _ _ (by rintro rfl; exact hn hb), fun _ h => .inl h⟩
theorem Kept.new' {σ : AHeap} {b : Nat} {o : AObj} (hb : σ.get b = .dead) : Kept σ [] (σ.set b o) [b] :=
  ⟨fun c hc _ => AHeap.get_set_ne _ _ (by rintro rfl; exact hc hb), fun c hc => by obtain rfl := List.mem_singleton.1 hc; exact .inr hb⟩
theorem get_resize {σ : AHeap} {n b : Nat} : (σ.resize n).get b = σ.get b := rfl
theorem Kept.none {σ σ' : AHeap} {fp fp' : List Nat} (h : Kept σ fp σ' fp') : Kept σ fp σ' [] := ⟨h.get, fun _ h => by cases h⟩
theorem Kept.setD {σ σ' : AHeap} {fp fp' : List Nat} {c : Nat} {o : AObj} (k : Kept σ fp σ' fp') (hc : σ.get c = .dead) : Kept σ fp (σ'.set c o) fp' :=
  ⟨fun b hb hn => by rw [AHeap.get_set_ne _ _ (by rintro rfl; exact hb hc)]; exact k.get b hb hn, k.new⟩
theorem nd {τ : AHeap} {b x : Nat} {o : AObj} (hb : τ.get b = .dead) (hx : τ.get x = o) (ho : o ≠ .dead) : b ≠ x := by rintro rfl; rw [hx] at hb; exact ho hb
theorem dead_of {σ : AHeap} {b : Nat} (hb : ∀ c, ¬ σ.get c = .dead → c < b) : σ.get b = .dead := by
  rcases hg : σ.get b with _ | _ | _
  · rfl
  · exact absurd (hb b (by rw [hg]; simp)) (Nat.lt_irrefl _)
  · exact absurd (hb b (by rw [hg]; simp)) (Nat.lt_irrefl _)
theorem not_bool {b : Bool} : aun .not (.bool b) = some (.bool (!b)) := rfl
theorem chunks {α : Type} {enc : α → List Value} {sz : Nat} (hsz : ∀ a, (enc a).length = sz) : ∀ (n : Nat) (cs : List Value), cs.length = n * sz → (∀ k, k < n → ∃ a, (cs.drop (k * sz)).take sz = enc a) → ∃ l : List α, l.length = n ∧ cs = l.flatMap enc
  | 0, cs, hl, _ => ⟨[], rfl, by rw [Nat.zero_mul] at hl; exact List.eq_nil_of_length_eq_zero hl⟩
  | n + 1, cs, hl, h => by
    obtain ⟨a, ha⟩ := h 0 (by omega)
    rw [Nat.zero_mul, List.drop_zero] at ha
    obtain ⟨l, h1, h2⟩ := chunks hsz n (cs.drop sz) (by rw [List.length_drop, hl, Nat.succ_mul]; omega) (fun k hk => by
      obtain ⟨b, hb⟩ := h (k + 1) (by omega)
      refine ⟨b, ?_⟩
      rw [← hb, List.drop_drop, Nat.succ_mul, Nat.add_comm])
    exact ⟨a :: l, by simp [h1], by rw [List.flatMap_cons, ← ha, ← h2, List.take_append_drop]⟩
structure Pr where
  id : Int
  n : Int
  s : ByteArray
  v : ByteArray
deriving DecidableEq
def propC (p : Pr) : List Value := [.int .i64 p.id, .int .i64 p.n, .string p.s, .string p.v]
end Go.Proofs.YtdiekikcnfjlnaaGreat.AbsA
namespace Go.Proofs.YtdiekikcnfjlnaaGreat.AbsS
open Go AbsYtdiekikcnfjlnaaGreat Abs
open AbsA (Pr propC)
set_option maxRecDepth 100000
set_option maxHeartbeats 4000000
set_option linter.unusedSimpArgs false
set_option linter.unusedVariables false
attribute [local irreducible] afterS afterOpS opSK OpsS TrS CodeS condS condW thenS thenQ guardS guardTS outS drawS trSK consS
def flat (l : List Pr) : List Value := l.flatMap propC
theorem flat_len (l : List Pr) : (flat l).length = l.length * 4 := by
  induction l with
  | nil => rfl
  | cons a l ih => show (propC a ++ flat l).length = _; rw [List.length_append, ih]; simp [propC]; omega
theorem flat_drop (l : List Pr) (i : Nat) : (flat l).drop (i * 4) = flat (l.drop i) := by
  induction l generalizing i with
  | nil => simp [flat]
  | cons a l ih =>
    cases i with
    | zero => simp
    | succ i =>
      have e : (i + 1) * 4 = 4 + i * 4 := by omega
      show (propC a ++ flat l).drop _ = _
      rw [e, ← List.drop_drop, List.drop_left' (by rfl), ih]; rfl
theorem take_len_add {α : Type} (a b : List α) (i : Nat) : (a ++ b).take (a.length + i) = a ++ b.take i := by
  induction a with
  | nil => simp
  | cons x a ih => rw [List.length_cons, show a.length + 1 + i = (a.length + i) + 1 by omega]; simp [ih]
theorem flat_take (l : List Pr) (i : Nat) : (flat l).take (i * 4) = flat (l.take i) := by
  induction l generalizing i with
  | nil => simp [flat]
  | cons a l ih =>
    cases i with
    | zero => simp [flat]
    | succ i =>
      have e : (i + 1) * 4 = (propC a).length + i * 4 := by show _ = 4 + _; omega
      show (propC a ++ flat l).take _ = propC a ++ flat (l.take i)
      rw [e, take_len_add, ih]
theorem flat_app (l m : List Pr) : flat (l ++ m) = flat l ++ flat m := by simp [flat]
theorem flat_at {l : List Pr} {i : Nat} (hi : i < l.length) : ((flat l).drop (i * 4)).take 4 = propC l[i] := by
  rw [flat_drop, List.drop_eq_getElem_cons hi]
  show (propC l[i] ++ flat _).take 4 = _
  exact List.take_left' rfl
theorem flat_set {l : List Pr} {i : Nat} {p : Pr} (hi : i < l.length) : splice (flat l) (i * 4) (propC p) = flat (l.set i p) := by
  have e : i * 4 + (propC p).length = (i + 1) * 4 := by show i * 4 + 4 = _; omega
  rw [splice, e, flat_take, flat_drop, List.set_eq_take_append_cons_drop, if_pos hi, flat_app]
  show flat _ ++ propC p ++ flat _ = flat _ ++ (propC p ++ flat _)
  rw [List.append_assoc]
section
variable {σ : AHeap} {Q : Value → AHeap → Prop}
theorem zeP : azero E 78 = some [.int .i64 0, .int .i64 0, .string ⟨#[]⟩, .string ⟨#[]⟩] := rfl
theorem ia_sl {d n c i : Nat} {ex : Option Nat} (hi : i < n) : aindexAddr E 26 (.slice (some ⟨d, 0, ex⟩) n c) (.int .i64 (i : Int)) = some (.pointer (some ⟨d, i * 4, none⟩)) := by
  simp only [aindexAddr, ty26, ty78]
  rw [if_pos (by omega)]
  simp
theorem sl_from {d n i : Nat} {ex : Option Nat} {cs : List Value} (gd : σ.get d = .cells cs true 4) (hi : i ≤ n) : aslice E σ 26 (.slice (some ⟨d, 0, ex⟩) n n) (some (.int .i64 (i : Int))) none none = some (.slice (some ⟨d, i * 4, ex⟩) (n - i) (n - i)) := by
  simp only [aslice, ty26, ty78, szOk, gd, abound]
  have h1 : (0 : Int) ≤ (i : Int) ∧ (i : Int) ≤ (n : Int) := by omega
  have h2 : (0 : Nat) ≤ n := by omega
  simp [h1.2]
theorem sl_to {d n i : Nat} {ex : Option Nat} {cs : List Value} (gd : σ.get d = .cells cs true 4) (hi : i ≤ n) : aslice E σ 26 (.slice (some ⟨d, 0, ex⟩) n n) none (some (.int .i64 (i : Int))) none = some (.slice (some ⟨d, 0, ex⟩) i n) := by
  simp only [aslice, ty26, ty78, szOk, gd, abound]
  have h1 : (0 : Int) ≤ (i : Int) ∧ (i : Int) ≤ (n : Int) := by omega
  simp [h1.2]
theorem reps_len (z : List Value) (k : Nat) : (reps z k).length = k * z.length := by
  induction k with
  | zero => simp [reps]
  | succ k ih => simp only [reps, List.length_append, ih, Nat.succ_mul]; omega
theorem reps_oc (k : Nat) : (reps [.int .i64 0, .int .i64 0, .string ⟨#[]⟩, .string ⟨#[]⟩] k).all oneCell = true := by
  induction k with
  | zero => rfl
  | succ k ih => simp only [reps, List.all_append, ih, Bool.and_true]; rfl
theorem clear_sl {d i : Nat} {ex : Option Nat} {xs : List Pr} (gd : σ.get d = .cells (flat xs) true 4) (hi : i < xs.length) {c : Nat} : abuiltin E σ .clear [26] [.slice (some ⟨d, i * 4, ex⟩) (xs.length - i) c] =
    some (.tuple #[], σ.set d (.cells (flat (xs.take i) ++ reps [.int .i64 0, .int .i64 0, .string ⟨#[]⟩, .string ⟨#[]⟩] (xs.length - i)) true 4)) := by
  have hne : ¬ xs.length - i = 0 := by omega
  have hl : (reps [.int .i64 0, .int .i64 0, .string ⟨#[]⟩, .string ⟨#[]⟩] (xs.length - i)).length = (xs.length - i) * 4 := reps_len _ _
  have hle : i * 4 + (xs.length - i) * 4 ≤ xs.length * 4 := by omega
  have hdr : (flat xs).drop (i * 4 + (xs.length - i) * 4) = [] := List.drop_eq_nil_of_le (by rw [flat_len]; omega)
  simp only [abuiltin, ty26, ty78, zeP, astoreAt, gd, reps_oc, hl, flat_len, splice, hdr, flat_take, List.append_nil, hne, hle, decide_true, decide_false, Bool.and_self, Bool.or_false, if_true, if_false, Option.map_some]
  rfl
theorem specWC {c : Nat} {id : Int} {p : Pr} (hc : σ.get c = .cells [.int .i64 id] true 0) (h : Q (.bool (decide (p.id = id))) σ) : CallS E B 95 [.agg ⟨propC p⟩, .pointer (some ⟨c, 0, none⟩)] σ Q := by
  simp only [propC]
  refine call95 (by simp) ?_
  simp only [strip, bodyOf, Tryz.f95, getD_body, keepN, bareOp_mk, lessOp_mk, lapp_cons, lapp_nil, List.map_cons, List.map_nil, array_toList, ↓reduceIte, Nat.reduceEqDiff, Bool.false_eq_true]
  simp (disch := first | assumption | simp) only [↓sbD, sbU, tyB, Nat.reduceMul, Nat.reduceSub, Int.reduceEq, Int.reduceLT, Int.reduceLE, Int.reduceNe, Nat.reduceBneDiff, Nat.reduceBEq, decide_false, gt_iff_lt, Bool.or_self, Bool.false_eq_true, Nat.mul_one, Nat.one_mul, Nat.zero_mul, ↓reduceIte, Nat.reduceEqDiff, Nat.reduceLT, Nat.reduceAdd, Nat.reduceLeDiff, reduceCtorEq, goInt, pairs, isConst, TI.isAgg, splice, boxS, Edp, dpv, Nat.beq_eq, ZV.val, List.any_cons, List.any_nil, Bool.false_and, hc]
  exact downS_here h
theorem specIdxW {d cp c : Nat} {ex : Option Nat} {id : Int} {l : List Pr} (gd : σ.get d = .cells (flat l) true 4) (hc : σ.get c = .cells [.int .i64 id] true 0) (hs : l.length ≤ 100000)
    (hin : ∀ i (hi : i < l.length), (l[i]).id = id → (∀ j (hj : j < l.length), j < i → (l[j]).id ≠ id) → Q (.int .i64 (i : Int)) σ) (hout : (∀ p ∈ l, p.id ≠ id) → Q (.int .i64 (-1)) σ) :
    CallS E B 104 [.slice (some ⟨d, 0, ex⟩) l.length cp, .func (.func 95) ⟨[]⟩ ⟨[.pointer (some ⟨c, 0, none⟩)]⟩] σ Q := by
  refine call104 (by simp) ?_
  simp only [strip, bodyOf, Tryz.f104, getD_body, keepN, bareOp_mk, lessOp_mk, lapp_cons, lapp_nil, List.map_cons, List.map_nil, array_toList, ↓reduceIte, Nat.reduceEqDiff, Bool.false_eq_true]
  simp (disch := first | assumption | simp) only [↓sbD, sbU, tyB, Nat.reduceMul, Nat.reduceSub, Int.reduceEq, Int.reduceLT, Int.reduceLE, Int.reduceNe, Nat.reduceBneDiff, Nat.reduceBEq, decide_false, gt_iff_lt, Bool.or_self, Bool.false_eq_true, Nat.mul_one, Nat.one_mul, Nat.zero_mul, ↓reduceIte, Nat.reduceEqDiff, Nat.reduceLT, Nat.reduceAdd, Nat.reduceLeDiff, reduceCtorEq, goInt, pairs, isConst, TI.isAgg, splice, boxS, Edp, dpv, Nat.beq_eq, ZV.val, List.any_cons, List.any_nil, Bool.false_and]
  refine S_loop (fun m f σ' => σ' = σ ∧ ∃ i : Nat, m + i = l.length ∧ f 8 = .int .i64 i ∧ ∀ j (hj : j < l.length), j < i → (l[j]).id ≠ id) l.length (Le.refl _) ⟨rfl, 0, rfl, by simp (disch := first | assumption | simp) only [↓sbD, sbU, tyB, Nat.reduceMul, Nat.reduceSub, Int.reduceEq, Int.reduceLT, Int.reduceLE, Int.reduceNe, Nat.reduceBneDiff, Nat.reduceBEq, decide_false, gt_iff_lt, Bool.or_self, Bool.false_eq_true, Nat.mul_one, Nat.one_mul, Nat.zero_mul, ↓reduceIte, Nat.reduceEqDiff, Nat.reduceLT, Nat.reduceAdd, Nat.reduceLeDiff, reduceCtorEq, goInt, pairs, isConst, TI.isAgg, splice, boxS, Edp, dpv, Nat.beq_eq, ZV.val, List.any_cons, List.any_nil, Bool.false_and]; rfl, fun j _ hj => by omega⟩ ?_
  rintro m f σ' ⟨rfl, i, hm, f8, hno⟩ hf
  have f0 := hf 0 (by decide) (notMem_wr (by kernel_rfl))
  have f1 := hf 1 (by decide) (notMem_wr (by kernel_rfl))
  have f7 := hf 7 (by decide) (notMem_wr (by kernel_rfl))
  simp (disch := first | assumption | simp) only [↓sbD, sbU, tyB, Nat.reduceMul, Nat.reduceSub, Int.reduceEq, Int.reduceLT, Int.reduceLE, Int.reduceNe, Nat.reduceBneDiff, Nat.reduceBEq, decide_false, gt_iff_lt, Bool.or_self, Bool.false_eq_true, Nat.mul_one, Nat.one_mul, Nat.zero_mul, ↓reduceIte, Nat.reduceEqDiff, Nat.reduceLT, Nat.reduceAdd, Nat.reduceLeDiff, reduceCtorEq, goInt, pairs, isConst, TI.isAgg, splice, boxS, Edp, dpv, Nat.beq_eq, ZV.val, List.any_cons, List.any_nil, Bool.false_and] at f0 f1 f7
  clear hf
  by_cases hi : (i : Int) < (l.length : Int)
  · have hi' : i < l.length := by omega
    have hia := ia_sl (d := d) (c := cp) (ex := ex) hi'
    have hle : i * 4 + 4 ≤ (flat l).length := by rw [flat_len]; omega
    have hta := flat_at hi'
    have hw := wrap_suc (n := i) (by omega)
    have hin' := hin i hi'
    generalize hy : l[i] = y at hta hin'
    simp (disch := first | assumption | simp) only [↓sbD, sbU, tyB, Nat.reduceMul, Nat.reduceSub, Int.reduceEq, Int.reduceLT, Int.reduceLE, Int.reduceNe, Nat.reduceBneDiff, Nat.reduceBEq, decide_false, gt_iff_lt, Bool.or_self, Bool.false_eq_true, Nat.mul_one, Nat.one_mul, Nat.zero_mul, ↓reduceIte, Nat.reduceEqDiff, Nat.reduceLT, Nat.reduceAdd, Nat.reduceLeDiff, reduceCtorEq, goInt, pairs, isConst, TI.isAgg, splice, boxS, Edp, dpv, Nat.beq_eq, ZV.val, List.any_cons, List.any_nil, Bool.false_and, f0, f1, f7, f8, hi, hia, gd, hle, hta]
    refine specWC (p := y) hc ?_
    by_cases he : y.id = id
    · simp (disch := first | assumption | simp) only [↓sbD, sbU, tyB, Nat.reduceMul, Nat.reduceSub, Int.reduceEq, Int.reduceLT, Int.reduceLE, Int.reduceNe, Nat.reduceBneDiff, Nat.reduceBEq, decide_false, gt_iff_lt, Bool.or_self, Bool.false_eq_true, Nat.mul_one, Nat.one_mul, Nat.zero_mul, ↓reduceIte, Nat.reduceEqDiff, Nat.reduceLT, Nat.reduceAdd, Nat.reduceLeDiff, reduceCtorEq, goInt, pairs, isConst, TI.isAgg, splice, boxS, Edp, dpv, Nat.beq_eq, ZV.val, List.any_cons, List.any_nil, Bool.false_and, he]
      exact downS_here (hin' he hno)
    · simp (disch := first | assumption | simp) only [↓sbD, sbU, tyB, Nat.reduceMul, Nat.reduceSub, Int.reduceEq, Int.reduceLT, Int.reduceLE, Int.reduceNe, Nat.reduceBneDiff, Nat.reduceBEq, decide_false, gt_iff_lt, Bool.or_self, Bool.false_eq_true, Nat.mul_one, Nat.one_mul, Nat.zero_mul, ↓reduceIte, Nat.reduceEqDiff, Nat.reduceLT, Nat.reduceAdd, Nat.reduceLeDiff, reduceCtorEq, goInt, pairs, isConst, TI.isAgg, splice, boxS, Edp, dpv, Nat.beq_eq, ZV.val, List.any_cons, List.any_nil, Bool.false_and, he, f8, hw]
      refine ⟨_, m - 1, _, rfl, by omega, Le.refl _, rfl, i + 1, by omega, by simp (disch := first | assumption | simp) only [↓sbD, sbU, tyB, Nat.reduceMul, Nat.reduceSub, Int.reduceEq, Int.reduceLT, Int.reduceLE, Int.reduceNe, Nat.reduceBneDiff, Nat.reduceBEq, decide_false, gt_iff_lt, Bool.or_self, Bool.false_eq_true, Nat.mul_one, Nat.one_mul, Nat.zero_mul, ↓reduceIte, Nat.reduceEqDiff, Nat.reduceLT, Nat.reduceAdd, Nat.reduceLeDiff, reduceCtorEq, goInt, pairs, isConst, TI.isAgg, splice, boxS, Edp, dpv, Nat.beq_eq, ZV.val, List.any_cons, List.any_nil, Bool.false_and], fun j hj hji => ?_⟩
      rcases (by omega : j < i ∨ j = i) with h3 | rfl
      · exact hno j hj h3
      · rw [hy]; exact he
  · simp (disch := first | assumption | simp) only [↓sbD, sbU, tyB, Nat.reduceMul, Nat.reduceSub, Int.reduceEq, Int.reduceLT, Int.reduceLE, Int.reduceNe, Nat.reduceBneDiff, Nat.reduceBEq, decide_false, gt_iff_lt, Bool.or_self, Bool.false_eq_true, Nat.mul_one, Nat.one_mul, Nat.zero_mul, ↓reduceIte, Nat.reduceEqDiff, Nat.reduceLT, Nat.reduceAdd, Nat.reduceLeDiff, reduceCtorEq, goInt, pairs, isConst, TI.isAgg, splice, boxS, Edp, dpv, Nat.beq_eq, ZV.val, List.any_cons, List.any_nil, Bool.false_and, f0, f1, f7, f8, hi]
    refine downS_here (hout fun p hp => ?_)
    obtain ⟨j, hj, rfl⟩ := List.getElem_of_mem hp
    exact hno j hj (by omega)
/-- how far the elements stand that stay -/
theorem specDelW {d c : Nat} {ex : Option Nat} {id : Int} {l : List Pr} (gd : σ.get d = .cells (flat l) true 4) (hc : σ.get c = .cells [.int .i64 id] true 0) (hcd : c ≠ d) (hs : l.length ≤ 100000)
    (hq : ∀ σ' cp' cs, σ'.get d = .cells (flat (l.filter fun p => !decide (p.id = id)) ++ cs) true 4 → (l.filter fun p => !decide (p.id = id)).length ≤ cp' → (flat (l.filter fun p => !decide (p.id = id)) ++ cs).length = cp' * 4 → (∀ b, σ.get b ≠ .dead → b ≠ d → σ'.get b = σ.get b) → Q (.slice (some ⟨d, 0, ex⟩) (l.filter fun p => !decide (p.id = id)).length cp') σ') :
    CallS E B 94 [.slice (some ⟨d, 0, ex⟩) l.length l.length, .func (.func 95) ⟨[]⟩ ⟨[.pointer (some ⟨c, 0, none⟩)]⟩] σ Q := by
  refine call94 (by simp) ?_
  simp only [strip, bodyOf, Tryz.f94, getD_body, keepN, bareOp_mk, lessOp_mk, lapp_cons, lapp_nil, List.map_cons, List.map_nil, array_toList, ↓reduceIte, Nat.reduceEqDiff, Bool.false_eq_true]
  simp (disch := first | assumption | simp) only [↓sbD, sbU, tyB, Nat.reduceMul, Nat.reduceSub, Int.reduceEq, Int.reduceLT, Int.reduceLE, Int.reduceNe, Nat.reduceBneDiff, Nat.reduceBEq, decide_false, gt_iff_lt, Bool.or_self, Bool.false_eq_true, Nat.mul_one, Nat.one_mul, Nat.zero_mul, ↓reduceIte, Nat.reduceEqDiff, Nat.reduceLT, Nat.reduceAdd, Nat.reduceLeDiff, reduceCtorEq, goInt, pairs, isConst, TI.isAgg, splice, boxS, Edp, dpv, Nat.beq_eq, ZV.val, List.any_cons, List.any_nil, Bool.false_and]
  refine specIdxW gd hc hs (fun i0 hi0 he0 hno0 => ?_) fun hno => ?_
  rotate_left
  · simp (disch := first | assumption | simp) only [↓sbD, sbU, tyB, Nat.reduceMul, Nat.reduceSub, Int.reduceEq, Int.reduceLT, Int.reduceLE, Int.reduceNe, Nat.reduceBneDiff, Nat.reduceBEq, decide_false, gt_iff_lt, Bool.or_self, Bool.false_eq_true, Nat.mul_one, Nat.one_mul, Nat.zero_mul, ↓reduceIte, Nat.reduceEqDiff, Nat.reduceLT, Nat.reduceAdd, Nat.reduceLeDiff, reduceCtorEq, goInt, pairs, isConst, TI.isAgg, splice, boxS, Edp, dpv, Nat.beq_eq, ZV.val, List.any_cons, List.any_nil, Bool.false_and]
    have hall : l.filter (fun p => !decide (p.id = id)) = l := by
      rw [List.filter_eq_self]
      intro p hp
      simp [hno p hp]
    have := hq σ l.length [] (by rw [hall, List.append_nil]; exact gd) (by rw [hall]; exact Nat.le_refl _) (by rw [hall, List.append_nil, flat_len]) (fun _ _ _ => rfl)
    rw [hall] at this
    exact downS_here this
  have hi1 : ¬ (i0 : Int) = -1 := by omega
  have hw0 := wrap_suc (n := i0) (by omega)
  simp (disch := first | assumption | simp) only [↓sbD, sbU, tyB, Nat.reduceMul, Nat.reduceSub, Int.reduceEq, Int.reduceLT, Int.reduceLE, Int.reduceNe, Nat.reduceBneDiff, Nat.reduceBEq, decide_false, gt_iff_lt, Bool.or_self, Bool.false_eq_true, Nat.mul_one, Nat.one_mul, Nat.zero_mul, ↓reduceIte, Nat.reduceEqDiff, Nat.reduceLT, Nat.reduceAdd, Nat.reduceLeDiff, reduceCtorEq, goInt, pairs, isConst, TI.isAgg, splice, boxS, Edp, dpv, Nat.beq_eq, ZV.val, List.any_cons, List.any_nil, Bool.false_and, hi1, hw0]
  have hf0 : (l.take (i0 + 1)).filter (fun p => !decide (p.id = id)) = l.take i0 := by
    rw [List.take_add_one, List.getElem?_eq_getElem hi0, List.filter_append]
    have h1 : (l.take i0).filter (fun p => !decide (p.id = id)) = l.take i0 := by
      rw [List.filter_eq_self]
      intro p hp
      obtain ⟨j, hj, rfl⟩ := List.getElem_of_mem hp
      rw [List.length_take] at hj
      rw [List.getElem_take]
      simp [hno0 j (by omega) (by omega)]
    rw [h1]
    simp [he0]
  refine S_loop (fun m f σ' => ∃ (i j : Nat) (xs : List Pr), m + j = l.length ∧ f 5 = .int .i64 i ∧ f 6 = .int .i64 j ∧ i < j ∧ j ≤ l.length ∧ xs.length = l.length ∧ xs.take i = (l.take j).filter (fun p => !decide (p.id = id)) ∧ xs.drop j = l.drop j ∧
      σ'.get d = .cells (flat xs) true 4 ∧ σ'.get c = .cells [.int .i64 id] true 0 ∧ ∀ b, σ.get b ≠ .dead → b ≠ d → σ'.get b = σ.get b) (l.length - (i0 + 1)) (Le.refl _)
    ⟨i0, i0 + 1, l, by omega, by simp (disch := first | assumption | simp) only [↓sbD, sbU, tyB, Nat.reduceMul, Nat.reduceSub, Int.reduceEq, Int.reduceLT, Int.reduceLE, Int.reduceNe, Nat.reduceBneDiff, Nat.reduceBEq, decide_false, gt_iff_lt, Bool.or_self, Bool.false_eq_true, Nat.mul_one, Nat.one_mul, Nat.zero_mul, ↓reduceIte, Nat.reduceEqDiff, Nat.reduceLT, Nat.reduceAdd, Nat.reduceLeDiff, reduceCtorEq, goInt, pairs, isConst, TI.isAgg, splice, boxS, Edp, dpv, Nat.beq_eq, ZV.val, List.any_cons, List.any_nil, Bool.false_and], by simp (disch := first | assumption | simp) only [↓sbD, sbU, tyB, Nat.reduceMul, Nat.reduceSub, Int.reduceEq, Int.reduceLT, Int.reduceLE, Int.reduceNe, Nat.reduceBneDiff, Nat.reduceBEq, decide_false, gt_iff_lt, Bool.or_self, Bool.false_eq_true, Nat.mul_one, Nat.one_mul, Nat.zero_mul, ↓reduceIte, Nat.reduceEqDiff, Nat.reduceLT, Nat.reduceAdd, Nat.reduceLeDiff, reduceCtorEq, goInt, pairs, isConst, TI.isAgg, splice, boxS, Edp, dpv, Nat.beq_eq, ZV.val, List.any_cons, List.any_nil, Bool.false_and], by omega, by omega, rfl, hf0.symm, rfl, gd, hc, fun _ _ _ => rfl⟩ ?_
  rintro m f σ' ⟨i, j, xs, hm, f5, f6, hij, hj, hxl, hx1, hx2, gd', hc', hk⟩ hf
  have f0 := hf 0 (by decide) (notMem_wr (by kernel_rfl))
  have f1 := hf 1 (by decide) (notMem_wr (by kernel_rfl))
  simp (disch := first | assumption | simp) only [↓sbD, sbU, tyB, Nat.reduceMul, Nat.reduceSub, Int.reduceEq, Int.reduceLT, Int.reduceLE, Int.reduceNe, Nat.reduceBneDiff, Nat.reduceBEq, decide_false, gt_iff_lt, Bool.or_self, Bool.false_eq_true, Nat.mul_one, Nat.one_mul, Nat.zero_mul, ↓reduceIte, Nat.reduceEqDiff, Nat.reduceLT, Nat.reduceAdd, Nat.reduceLeDiff, reduceCtorEq, goInt, pairs, isConst, TI.isAgg, splice, boxS, Edp, dpv, Nat.beq_eq, ZV.val, List.any_cons, List.any_nil, Bool.false_and] at f0 f1
  clear hf
  by_cases hjl : (j : Int) < (l.length : Int)
  · have hj' : j < l.length := by omega
    have hjx : j < xs.length := by omega
    have hia := ia_sl (d := d) (c := l.length) (ex := ex) hj'
    have hle : j * 4 + 4 ≤ (flat xs).length := by rw [flat_len]; omega
    have hta := flat_at hjx
    have hxj : xs[j] = l[j] := by
      have := congrArg (fun t => t[0]?) hx2
      simp only [List.getElem?_drop, Nat.add_zero] at this
      rw [List.getElem?_eq_getElem hjx, List.getElem?_eq_getElem hj'] at this
      exact Option.some.inj this
    have hw := wrap_suc (n := j) (by omega)
    have hwi := wrap_suc (n := i) (by omega)
    have htk : l.take (j + 1) = l.take j ++ [l[j]] := by rw [List.take_add_one, List.getElem?_eq_getElem hj']; rfl
    rw [hxj] at hta
    generalize hy : l[j] = y at hta htk
    have hac : propC y = [.int .i64 y.id, .int .i64 y.n, .string y.s, .string y.v] := rfl
    simp (disch := first | assumption | simp) only [↓sbD, sbU, tyB, Nat.reduceMul, Nat.reduceSub, Int.reduceEq, Int.reduceLT, Int.reduceLE, Int.reduceNe, Nat.reduceBneDiff, Nat.reduceBEq, decide_false, gt_iff_lt, Bool.or_self, Bool.false_eq_true, Nat.mul_one, Nat.one_mul, Nat.zero_mul, ↓reduceIte, Nat.reduceEqDiff, Nat.reduceLT, Nat.reduceAdd, Nat.reduceLeDiff, reduceCtorEq, goInt, pairs, isConst, TI.isAgg, splice, boxS, Edp, dpv, Nat.beq_eq, ZV.val, List.any_cons, List.any_nil, Bool.false_and, f0, f1, f5, f6, hjl, hia, gd', hle, hta, AS_new, zeP, hac]
    intro e he
    have hed : d ≠ e := by rintro rfl; rw [gd'] at he; cases he
    have hec : c ≠ e := by rintro rfl; rw [hc'] at he; cases he
    try simp (disch := first | assumption | simp) only [↓sbD, sbU, tyB, Nat.reduceMul, Nat.reduceSub, Int.reduceEq, Int.reduceLT, Int.reduceLE, Int.reduceNe, Nat.reduceBneDiff, Nat.reduceBEq, decide_false, gt_iff_lt, Bool.or_self, Bool.false_eq_true, Nat.mul_one, Nat.one_mul, Nat.zero_mul, ↓reduceIte, Nat.reduceEqDiff, Nat.reduceLT, Nat.reduceAdd, Nat.reduceLeDiff, reduceCtorEq, goInt, pairs, isConst, TI.isAgg, splice, boxS, Edp, dpv, Nat.beq_eq, ZV.val, List.any_cons, List.any_nil, Bool.false_and, AHeap.get_set_same]
    generalize hσ1 : AHeap.set (AHeap.set σ' e _) e _ = σ1
    have ge1 : σ1.get e = .cells [.int .i64 y.id, .int .i64 y.n, .string y.s, .string y.v] true 0 := by rw [← hσ1]; exact AHeap.get_set_same _ _ _
    have gd1 : σ1.get d = .cells (flat xs) true 4 := by rw [← hσ1, AHeap.get_set_ne _ _ hed.symm, AHeap.get_set_ne _ _ hed.symm]; exact gd'
    have hc1 : σ1.get c = .cells [.int .i64 id] true 0 := by rw [← hσ1, AHeap.get_set_ne _ _ hec.symm, AHeap.get_set_ne _ _ hec.symm]; exact hc'
    have hk1 : ∀ b, σ.get b ≠ .dead → b ≠ d → σ1.get b = σ.get b := fun b hb hbd => by
      have hbe : e ≠ b := by rintro rfl; exact hb (by rw [← hk e hb hbd]; exact he)
      rw [← hσ1, AHeap.get_set_ne _ _ hbe, AHeap.get_set_ne _ _ hbe]; exact hk b hb hbd
    clear hσ1
    try simp (disch := first | assumption | simp) only [↓sbD, sbU, tyB, Nat.reduceMul, Nat.reduceSub, Int.reduceEq, Int.reduceLT, Int.reduceLE, Int.reduceNe, Nat.reduceBneDiff, Nat.reduceBEq, decide_false, gt_iff_lt, Bool.or_self, Bool.false_eq_true, Nat.mul_one, Nat.one_mul, Nat.zero_mul, ↓reduceIte, Nat.reduceEqDiff, Nat.reduceLT, Nat.reduceAdd, Nat.reduceLeDiff, reduceCtorEq, goInt, pairs, isConst, TI.isAgg, splice, boxS, Edp, dpv, Nat.beq_eq, ZV.val, List.any_cons, List.any_nil, Bool.false_and, ge1]
    refine specWC (p := y) hc1 ?_
    by_cases hyi : y.id = id
    · simp (disch := first | assumption | simp) only [↓sbD, sbU, tyB, Nat.reduceMul, Nat.reduceSub, Int.reduceEq, Int.reduceLT, Int.reduceLE, Int.reduceNe, Nat.reduceBneDiff, Nat.reduceBEq, decide_false, gt_iff_lt, Bool.or_self, Bool.false_eq_true, Nat.mul_one, Nat.one_mul, Nat.zero_mul, ↓reduceIte, Nat.reduceEqDiff, Nat.reduceLT, Nat.reduceAdd, Nat.reduceLeDiff, reduceCtorEq, goInt, pairs, isConst, TI.isAgg, splice, boxS, Edp, dpv, Nat.beq_eq, ZV.val, List.any_cons, List.any_nil, Bool.false_and, hyi, AbsA.not_bool, Bool.not_true, f6, hw]
      exact ⟨_, m - 1, σ1, rfl, by omega, Le.refl _, i, j + 1, xs, by omega, by simp (disch := first | assumption | simp) only [↓sbD, sbU, tyB, Nat.reduceMul, Nat.reduceSub, Int.reduceEq, Int.reduceLT, Int.reduceLE, Int.reduceNe, Nat.reduceBneDiff, Nat.reduceBEq, decide_false, gt_iff_lt, Bool.or_self, Bool.false_eq_true, Nat.mul_one, Nat.one_mul, Nat.zero_mul, ↓reduceIte, Nat.reduceEqDiff, Nat.reduceLT, Nat.reduceAdd, Nat.reduceLeDiff, reduceCtorEq, goInt, pairs, isConst, TI.isAgg, splice, boxS, Edp, dpv, Nat.beq_eq, ZV.val, List.any_cons, List.any_nil, Bool.false_and, f5], by simp (disch := first | assumption | simp) only [↓sbD, sbU, tyB, Nat.reduceMul, Nat.reduceSub, Int.reduceEq, Int.reduceLT, Int.reduceLE, Int.reduceNe, Nat.reduceBneDiff, Nat.reduceBEq, decide_false, gt_iff_lt, Bool.or_self, Bool.false_eq_true, Nat.mul_one, Nat.one_mul, Nat.zero_mul, ↓reduceIte, Nat.reduceEqDiff, Nat.reduceLT, Nat.reduceAdd, Nat.reduceLeDiff, reduceCtorEq, goInt, pairs, isConst, TI.isAgg, splice, boxS, Edp, dpv, Nat.beq_eq, ZV.val, List.any_cons, List.any_nil, Bool.false_and], by omega, by omega, hxl, by rw [hx1, htk, List.filter_append]; simp [hyi], by rw [← List.drop_drop, ← List.drop_drop, hx2], gd1, hc1, hk1⟩
    · have hix : i < xs.length := by omega
      have hia' := ia_sl (d := d) (c := l.length) (ex := ex) (show i < l.length by omega)
      have hle' : i * 4 + 4 ≤ (flat xs).length := by rw [flat_len]; omega
      have hst := flat_set (p := y) hix
      rw [hac] at hst
      have hst' : List.take (i * 4) (flat xs) ++ [.int .i64 y.id, .int .i64 y.n, .string y.s, .string y.v] ++ List.drop (i * 4 + 4) (flat xs) = flat (xs.set i y) := hst
      simp (disch := first | assumption | simp) only [↓sbD, sbU, tyB, Nat.reduceMul, Nat.reduceSub, Int.reduceEq, Int.reduceLT, Int.reduceLE, Int.reduceNe, Nat.reduceBneDiff, Nat.reduceBEq, decide_false, gt_iff_lt, Bool.or_self, Bool.false_eq_true, Nat.mul_one, Nat.one_mul, Nat.zero_mul, ↓reduceIte, Nat.reduceEqDiff, Nat.reduceLT, Nat.reduceAdd, Nat.reduceLeDiff, reduceCtorEq, goInt, pairs, isConst, TI.isAgg, splice, boxS, Edp, dpv, Nat.beq_eq, ZV.val, List.any_cons, List.any_nil, Bool.false_and, hyi, AbsA.not_bool, Bool.not_false, f0, f1, f5, ge1, hia', gd1, hle', hst', List.length_cons, List.length_nil]
      generalize hσ2 : AHeap.set σ1 d _ = σ2
      have gd2 : σ2.get d = .cells (flat (xs.set i y)) true 4 := by rw [← hσ2]; first | exact AHeap.get_set_same _ _ _ | exact (AHeap.get_set_same _ _ _).trans (by rw [hst'])
      have hc2 : σ2.get c = .cells [.int .i64 id] true 0 := by rw [← hσ2, AHeap.get_set_ne _ _ hcd.symm]; exact hc1
      have hk2 : ∀ b, σ.get b ≠ .dead → b ≠ d → σ2.get b = σ.get b := fun b hb hbd => by rw [← hσ2, AHeap.get_set_ne _ _ hbd.symm]; exact hk1 b hb hbd
      clear hσ2
      try simp (disch := first | assumption | simp) only [↓sbD, sbU, tyB, Nat.reduceMul, Nat.reduceSub, Int.reduceEq, Int.reduceLT, Int.reduceLE, Int.reduceNe, Nat.reduceBneDiff, Nat.reduceBEq, decide_false, gt_iff_lt, Bool.or_self, Bool.false_eq_true, Nat.mul_one, Nat.one_mul, Nat.zero_mul, ↓reduceIte, Nat.reduceEqDiff, Nat.reduceLT, Nat.reduceAdd, Nat.reduceLeDiff, reduceCtorEq, goInt, pairs, isConst, TI.isAgg, splice, boxS, Edp, dpv, Nat.beq_eq, ZV.val, List.any_cons, List.any_nil, Bool.false_and, f5, f6, hwi, hw]
      exact ⟨_, m - 1, σ2, rfl, by omega, Le.refl _, i + 1, j + 1, xs.set i y, by omega, by simp (disch := first | assumption | simp) only [↓sbD, sbU, tyB, Nat.reduceMul, Nat.reduceSub, Int.reduceEq, Int.reduceLT, Int.reduceLE, Int.reduceNe, Nat.reduceBneDiff, Nat.reduceBEq, decide_false, gt_iff_lt, Bool.or_self, Bool.false_eq_true, Nat.mul_one, Nat.one_mul, Nat.zero_mul, ↓reduceIte, Nat.reduceEqDiff, Nat.reduceLT, Nat.reduceAdd, Nat.reduceLeDiff, reduceCtorEq, goInt, pairs, isConst, TI.isAgg, splice, boxS, Edp, dpv, Nat.beq_eq, ZV.val, List.any_cons, List.any_nil, Bool.false_and], by simp (disch := first | assumption | simp) only [↓sbD, sbU, tyB, Nat.reduceMul, Nat.reduceSub, Int.reduceEq, Int.reduceLT, Int.reduceLE, Int.reduceNe, Nat.reduceBneDiff, Nat.reduceBEq, decide_false, gt_iff_lt, Bool.or_self, Bool.false_eq_true, Nat.mul_one, Nat.one_mul, Nat.zero_mul, ↓reduceIte, Nat.reduceEqDiff, Nat.reduceLT, Nat.reduceAdd, Nat.reduceLeDiff, reduceCtorEq, goInt, pairs, isConst, TI.isAgg, splice, boxS, Edp, dpv, Nat.beq_eq, ZV.val, List.any_cons, List.any_nil, Bool.false_and], by omega, by omega, by rw [List.length_set]; exact hxl,
        by rw [htk, List.filter_append, ← hx1, List.take_add_one, List.take_set_of_le (Nat.le_refl _), List.getElem?_set_self hix]; simp [hyi],
        by rw [List.drop_set_of_lt (by omega), ← List.drop_drop, ← List.drop_drop, hx2], gd2, hc2, hk2⟩
  · have hjl' : j = l.length := by omega
    subst hjl'
    rw [List.take_of_length_le (Nat.le_refl _)] at hx1
    have hlen : (l.filter fun p => !decide (p.id = id)).length = i := by rw [← hx1, List.length_take]; omega
    have h1 := sl_from (ex := ex) (n := l.length) gd' (show i ≤ l.length by omega)
    have h2 := clear_sl (ex := ex) (c := l.length - i) gd' (show i < xs.length by omega)
    rw [hxl] at h2
    simp (disch := first | assumption | simp) only [↓sbD, sbU, tyB, Nat.reduceMul, Nat.reduceSub, Int.reduceEq, Int.reduceLT, Int.reduceLE, Int.reduceNe, Nat.reduceBneDiff, Nat.reduceBEq, decide_false, gt_iff_lt, Bool.or_self, Bool.false_eq_true, Nat.mul_one, Nat.one_mul, Nat.zero_mul, ↓reduceIte, Nat.reduceEqDiff, Nat.reduceLT, Nat.reduceAdd, Nat.reduceLeDiff, reduceCtorEq, goInt, pairs, isConst, TI.isAgg, splice, boxS, Edp, dpv, Nat.beq_eq, ZV.val, List.any_cons, List.any_nil, Bool.false_and, f0, f1, f5, f6, hjl, h1, h2]
    generalize hσ1 : AHeap.set σ' d _ = σ1
    have gd1 : σ1.get d = .cells (flat (xs.take i) ++ reps [.int .i64 0, .int .i64 0, .string ⟨#[]⟩, .string ⟨#[]⟩] (l.length - i)) true 4 := by rw [← hσ1]; exact AHeap.get_set_same _ _ _
    have hk1 : ∀ b, σ.get b ≠ .dead → b ≠ d → σ1.get b = σ.get b := fun b hb hbd => by rw [← hσ1, AHeap.get_set_ne _ _ hbd.symm]; exact hk b hb hbd
    have h3 := sl_to (ex := ex) (n := l.length) gd1 (show i ≤ l.length by omega)
    clear hσ1
    try simp (disch := first | assumption | simp) only [↓sbD, sbU, tyB, Nat.reduceMul, Nat.reduceSub, Int.reduceEq, Int.reduceLT, Int.reduceLE, Int.reduceNe, Nat.reduceBneDiff, Nat.reduceBEq, decide_false, gt_iff_lt, Bool.or_self, Bool.false_eq_true, Nat.mul_one, Nat.one_mul, Nat.zero_mul, ↓reduceIte, Nat.reduceEqDiff, Nat.reduceLT, Nat.reduceAdd, Nat.reduceLeDiff, reduceCtorEq, goInt, pairs, isConst, TI.isAgg, splice, boxS, Edp, dpv, Nat.beq_eq, ZV.val, List.any_cons, List.any_nil, Bool.false_and, f0, f5, h3]
    rw [hx1] at gd1
    have hle : (l.filter fun p => !decide (p.id = id)).length ≤ l.length := List.length_filter_le _ _
    have := hq σ1 l.length _ gd1 hle (by rw [List.length_append, flat_len, reps_len, hlen]; show i * 4 + (l.length - i) * 4 = _; omega) hk1
    rw [hlen] at this
    exact downS_here this
theorem eq_nil {cs : Bool} : abin E σ .eql 26 cs (.slice none 0 0) (.slice none 0 0) = some (.bool true) := by
  simp only [abin, nonNum, eqAsk, aeq, ty26]
  cases cs <;> rfl
theorem eq_dsl {cs : Bool} {m sz n : Nat} {xs : List Value} : abin E σ .eql 26 cs (dsl m sz n xs) (.slice none 0 0) = some (.bool false) := by
  simp only [abin, nonNum, eqAsk, aeq, ty26]
  cases cs <;> rfl
theorem bs_zero {K : Value → AHeap → Prop} (hq : ∀ b, σ.get b = .dead → K (.slice (some ⟨b, 0, some 1⟩) 0 0) (σ.set b (.cells [] true 4))) : afterOpS E B (some (bsS E σ 26 0 [])) σ K := by
  simp (disch := first | assumption | simp) only [↓sbD, sbU, tyB, Nat.reduceMul, Nat.reduceSub, Int.reduceEq, Int.reduceLT, Int.reduceLE, Int.reduceNe, Nat.reduceBneDiff, Nat.reduceBEq, decide_false, gt_iff_lt, Bool.or_self, Bool.false_eq_true, Nat.mul_one, Nat.one_mul, Nat.zero_mul, ↓reduceIte, Nat.reduceEqDiff, Nat.reduceLT, Nat.reduceAdd, Nat.reduceLeDiff, reduceCtorEq, goInt, pairs, isConst, TI.isAgg, splice, boxS, Edp, dpv, Nat.beq_eq, ZV.val, List.any_cons, List.any_nil, Bool.false_and, AS_any]
  intro b hb
  exact ⟨_, _, rfl, hq b (AbsA.dead_of hb)⟩
theorem flat_oc (l : List Pr) : (flat l).all oneCell = true := by
  induction l with
  | nil => rfl
  | cons a l ih => show (propC a ++ flat l).all oneCell = true; rw [List.all_append, ih]; rfl
theorem eq_sl {cs : Bool} {a : Addr} {n c : Nat} : abin E σ .eql 26 cs (.slice (some a) n c) (.slice none 0 0) = some (.bool false) := by
  simp only [abin, nonNum, eqAsk, aeq, ty26]
  cases cs <;> rfl
theorem app_clone {K : Value → AHeap → Prop} {b0 : Nat} {x : Value} {l : List Pr} (g0 : σ.get b0 = .cells [] true 4) (hx : ∀ b, srcCells (σ.resize b) 4 x = some (l.length, flat l)) (hs : l.length ≤ 100000)
    (hq : ∀ σ' d ex, (ex = none ∨ ex = some 1) → σ'.get d = .cells (flat l) true 4 → (d = b0 ∨ σ.get d = .dead) → (∀ b, σ.get b ≠ .dead → σ'.get b = σ.get b) → K (.slice (some ⟨d, 0, ex⟩) l.length l.length) σ') :
    afterOpS E B (some (.any fun b => aappend E (σ.resize b) [26, 26] [.slice (some ⟨b0, 0, some 1⟩) 0 0, x])) σ K := by
  simp (disch := first | assumption | simp) only [↓sbD, sbU, tyB, Nat.reduceMul, Nat.reduceSub, Int.reduceEq, Int.reduceLT, Int.reduceLE, Int.reduceNe, Nat.reduceBneDiff, Nat.reduceBEq, decide_false, gt_iff_lt, Bool.or_self, Bool.false_eq_true, Nat.mul_one, Nat.one_mul, Nat.zero_mul, ↓reduceIte, Nat.reduceEqDiff, Nat.reduceLT, Nat.reduceAdd, Nat.reduceLeDiff, reduceCtorEq, goInt, pairs, isConst, TI.isAgg, splice, boxS, Edp, dpv, Nat.beq_eq, ZV.val, List.any_cons, List.any_nil, Bool.false_and, AS_any]
  intro b hb
  have hbd := AbsA.dead_of hb
  by_cases hl : l.length = 0
  · have hl0 : l = [] := List.eq_nil_of_length_eq_zero hl
    subst hl0
    refine ⟨.slice (some ⟨b0, 0, some 1⟩) 0 0, σ.resize b, ?_, hq _ b0 _ (.inr rfl) (by exact g0) (.inl rfl) (fun _ _ => rfl)⟩
    simp only [aappend, ty26, ty78, zeP, hx, AbsA.get_resize, g0]
    rfl
  · refine ⟨.slice (some ⟨b, 0, none⟩) l.length l.length, (σ.resize b).alloc (.cells (flat l) true 4), ?_, hq _ b _ (.inl rfl) (AHeap.get_alloc_same (σ.resize b) _) (.inr hbd) fun c hc => AHeap.get_alloc_ne _ _ (by intro e; subst e; exact hc hbd)⟩
    have c1 : l.length * 48 ≤ 140737488355328 := by omega
    have c2 : ¬ 0 + l.length ≤ 0 := by omega
    simp only [aappend, ty26, ty78, zeP, hx, AbsA.get_resize, takeCells, g0, c2, flat_oc]
    simp only [Nat.zero_add, c1, decide_true, Bool.and_self, if_true, if_false, Nat.zero_mul, List.length_nil, Nat.le_refl, List.take_nil, List.drop_nil, Option.map_some, List.nil_append]
    have c3 : ¬ l.length ≤ 0 := by omega
    try simp only [c3, hl, flat_oc, Bool.and_self, if_true, if_false]
    rfl
/-- properties in a slice: one that nobody writes, or one that may be written -/
def PS (σ : AHeap) (v : Value) (l : List Pr) : Prop := (l = [] ∧ v = .slice none 0 0) ∨ (∃ m, v = dsl m 4 l.length (flat l)) ∨ ∃ d ex c cs, v = .slice (some ⟨d, 0, ex⟩) l.length c ∧ σ.get d = .cells (flat l ++ cs) true 4
/-- properties in a slice that may be written, and how much room there is -/
def WS (σ : AHeap) (v : Value) (l : List Pr) : Prop := (l = [] ∧ v = .slice none 0 0) ∨ ∃ d ex c cs, v = .slice (some ⟨d, 0, ex⟩) l.length c ∧ σ.get d = .cells (flat l ++ cs) true 4 ∧ l.length ≤ c ∧ (flat l ++ cs).length = c * 4 ∧ (ex = none ∨ ex = some 1)
theorem WS.ps {v : Value} {l : List Pr} (h : WS σ v l) : PS σ v l := by
  rcases h with h | ⟨d, ex, c, cs, h1, h2, _⟩
  · exact .inl h
  · exact .inr (.inr ⟨d, ex, c, cs, h1, h2⟩)
theorem PS.kept {σ' : AHeap} {v : Value} {l : List Pr} (h : PS σ v l) (k : ∀ b, σ.get b ≠ .dead → σ'.get b = σ.get b) : PS σ' v l := by
  rcases h with h | h | ⟨d, ex, c, cs, h1, h2⟩
  · exact .inl h
  · exact .inr (.inl h)
  · exact .inr (.inr ⟨d, ex, c, cs, h1, by rw [k d (by rw [h2]; simp)]; exact h2⟩)
theorem WS.kept {σ' : AHeap} {v : Value} {l : List Pr} (h : WS σ v l) (k : ∀ b, σ.get b ≠ .dead → σ'.get b = σ.get b) : WS σ' v l := by
  rcases h with h | ⟨d, ex, c, cs, h1, h2, h3⟩
  · exact .inl h
  · exact .inr ⟨d, ex, c, cs, h1, by rw [k d (by rw [h2]; simp)]; exact h2, h3⟩
theorem PS.vc {v : Value} {l : List Pr} (h : PS σ v l) : vcells v = [v] ∧ oneCell v = true := by
  rcases h with ⟨_, rfl⟩ | ⟨m, rfl⟩ | ⟨d, ex, c, cs, rfl, _⟩ <;> exact ⟨rfl, rfl⟩
theorem specCloW {v : Value} {l : List Pr} (hv : PS σ v l) (hs : l.length ≤ 100000) (hq : ∀ σ' v', WS σ' v' l → (∀ b, σ.get b ≠ .dead → σ'.get b = σ.get b) → (v' = .slice none 0 0 ∨ ∃ d ex, v' = .slice (some ⟨d, 0, ex⟩) l.length l.length ∧ σ.get d = .dead ∧ σ'.get d = .cells (flat l) true 4 ∧ (ex = none ∨ ex = some 1)) → Q v' σ') :
    CallS E B 32 [v] σ Q := by
  rcases hv with ⟨rfl, rfl⟩ | hv
  · refine call32 (by simp) ?_
    simp only [strip, bodyOf, Tryz.f32, getD_body, keepN, bareOp_mk, lessOp_mk, lapp_cons, lapp_nil, List.map_cons, List.map_nil, array_toList, ↓reduceIte, Nat.reduceEqDiff, Bool.false_eq_true]
    simp (disch := first | assumption | simp) only [↓sbD, sbU, tyB, Nat.reduceMul, Nat.reduceSub, Int.reduceEq, Int.reduceLT, Int.reduceLE, Int.reduceNe, Nat.reduceBneDiff, Nat.reduceBEq, decide_false, gt_iff_lt, Bool.or_self, Bool.false_eq_true, Nat.mul_one, Nat.one_mul, Nat.zero_mul, ↓reduceIte, Nat.reduceEqDiff, Nat.reduceLT, Nat.reduceAdd, Nat.reduceLeDiff, reduceCtorEq, goInt, pairs, isConst, TI.isAgg, splice, boxS, Edp, dpv, Nat.beq_eq, ZV.val, List.any_cons, List.any_nil, Bool.false_and, eq_nil]
    exact downS_here (hq _ _ (.inl ⟨rfl, rfl⟩) (fun _ _ => rfl) (.inl rfl))
  have FI : ∀ {τ : AHeap} {b0 : Nat}, σ.get b0 = .dead → τ = σ.set b0 (.cells [] true 4) → (∀ b, srcCells (τ.resize b) 4 v = some (l.length, flat l)) → ∀ {K : Value → AHeap → Prop}, (∀ σ' v', WS σ' v' l → (∀ b, σ.get b ≠ .dead → σ'.get b = σ.get b) → (v' = .slice none 0 0 ∨ ∃ d ex, v' = .slice (some ⟨d, 0, ex⟩) l.length l.length ∧ σ.get d = .dead ∧ σ'.get d = .cells (flat l) true 4 ∧ (ex = none ∨ ex = some 1)) → K v' σ') →
      afterOpS E B (some (.any fun b => aappend E (τ.resize b) [26, 26] [.slice (some ⟨b0, 0, some 1⟩) 0 0, v])) τ K := by
    intro τ b0 hb hτ hx K hK
    subst hτ
    refine app_clone (AHeap.get_set_same _ _ _) hx hs fun σ' d ex hex h1 h2 h3 => ?_
    have hd : σ.get d = .dead := by
      rcases h2 with rfl | h2
      · exact hb
      · by_cases e : b0 = d
        · subst e; exact hb
        · rw [AHeap.get_set_ne _ _ e] at h2; exact h2
    refine hK σ' _ (.inr ⟨d, ex, _, [], rfl, by rw [List.append_nil]; exact h1, Nat.le_refl _, by rw [List.append_nil, flat_len], hex⟩) (fun c hc => ?_) (.inr ⟨d, ex, rfl, hd, h1, hex⟩)
    have hbc : b0 ≠ c := by rintro rfl; exact hc hb
    rw [h3 c (by rw [AHeap.get_set_ne _ _ hbc]; exact hc), AHeap.get_set_ne _ _ hbc]
  rcases hv with ⟨m, rfl⟩ | ⟨d0, ex0, c0, cs0, rfl, g0⟩
  · refine call32 (by simp) ?_
    simp only [strip, bodyOf, Tryz.f32, getD_body, keepN, bareOp_mk, lessOp_mk, lapp_cons, lapp_nil, List.map_cons, List.map_nil, array_toList, ↓reduceIte, Nat.reduceEqDiff, Bool.false_eq_true]
    simp (disch := first | assumption | simp) only [↓sbD, sbU, tyB, Nat.reduceMul, Nat.reduceSub, Int.reduceEq, Int.reduceLT, Int.reduceLE, Int.reduceNe, Nat.reduceBneDiff, Nat.reduceBEq, decide_false, gt_iff_lt, Bool.or_self, Bool.false_eq_true, Nat.mul_one, Nat.one_mul, Nat.zero_mul, ↓reduceIte, Nat.reduceEqDiff, Nat.reduceLT, Nat.reduceAdd, Nat.reduceLeDiff, reduceCtorEq, goInt, pairs, isConst, TI.isAgg, splice, boxS, Edp, dpv, Nat.beq_eq, ZV.val, List.any_cons, List.any_nil, Bool.false_and, eq_dsl]
    refine bs_zero fun b hb => ?_
    try simp (disch := first | assumption | simp) only [↓sbD, sbU, tyB, Nat.reduceMul, Nat.reduceSub, Int.reduceEq, Int.reduceLT, Int.reduceLE, Int.reduceNe, Nat.reduceBneDiff, Nat.reduceBEq, decide_false, gt_iff_lt, Bool.or_self, Bool.false_eq_true, Nat.mul_one, Nat.one_mul, Nat.zero_mul, ↓reduceIte, Nat.reduceEqDiff, Nat.reduceLT, Nat.reduceAdd, Nat.reduceLeDiff, reduceCtorEq, goInt, pairs, isConst, TI.isAgg, splice, boxS, Edp, dpv, Nat.beq_eq, ZV.val, List.any_cons, List.any_nil, Bool.false_and]
    refine FI hb rfl (fun b => by simp only [dsl, srcCells, if_true]) fun σ' v' h1 h2 h3 => ?_
    try simp (disch := first | assumption | simp) only [↓sbD, sbU, tyB, Nat.reduceMul, Nat.reduceSub, Int.reduceEq, Int.reduceLT, Int.reduceLE, Int.reduceNe, Nat.reduceBneDiff, Nat.reduceBEq, decide_false, gt_iff_lt, Bool.or_self, Bool.false_eq_true, Nat.mul_one, Nat.one_mul, Nat.zero_mul, ↓reduceIte, Nat.reduceEqDiff, Nat.reduceLT, Nat.reduceAdd, Nat.reduceLeDiff, reduceCtorEq, goInt, pairs, isConst, TI.isAgg, splice, boxS, Edp, dpv, Nat.beq_eq, ZV.val, List.any_cons, List.any_nil, Bool.false_and]
    exact downS_here (hq σ' v' h1 h2 h3)
  · refine call32 (by simp) ?_
    simp only [strip, bodyOf, Tryz.f32, getD_body, keepN, bareOp_mk, lessOp_mk, lapp_cons, lapp_nil, List.map_cons, List.map_nil, array_toList, ↓reduceIte, Nat.reduceEqDiff, Bool.false_eq_true]
    simp (disch := first | assumption | simp) only [↓sbD, sbU, tyB, Nat.reduceMul, Nat.reduceSub, Int.reduceEq, Int.reduceLT, Int.reduceLE, Int.reduceNe, Nat.reduceBneDiff, Nat.reduceBEq, decide_false, gt_iff_lt, Bool.or_self, Bool.false_eq_true, Nat.mul_one, Nat.one_mul, Nat.zero_mul, ↓reduceIte, Nat.reduceEqDiff, Nat.reduceLT, Nat.reduceAdd, Nat.reduceLeDiff, reduceCtorEq, goInt, pairs, isConst, TI.isAgg, splice, boxS, Edp, dpv, Nat.beq_eq, ZV.val, List.any_cons, List.any_nil, Bool.false_and, eq_sl]
    refine bs_zero fun b hb => ?_
    try simp (disch := first | assumption | simp) only [↓sbD, sbU, tyB, Nat.reduceMul, Nat.reduceSub, Int.reduceEq, Int.reduceLT, Int.reduceLE, Int.reduceNe, Nat.reduceBneDiff, Nat.reduceBEq, decide_false, gt_iff_lt, Bool.or_self, Bool.false_eq_true, Nat.mul_one, Nat.one_mul, Nat.zero_mul, ↓reduceIte, Nat.reduceEqDiff, Nat.reduceLT, Nat.reduceAdd, Nat.reduceLeDiff, reduceCtorEq, goInt, pairs, isConst, TI.isAgg, splice, boxS, Edp, dpv, Nat.beq_eq, ZV.val, List.any_cons, List.any_nil, Bool.false_and]
    have hbd : b ≠ d0 := by rintro rfl; rw [g0] at hb; cases hb
    refine FI hb rfl (fun b' => ?_) fun σ' v' h1 h2 h3 => ?_
    · have g1 : (σ.set b (.cells [] true 4)).get d0 = .cells (flat l ++ cs0) true 4 := by rw [AHeap.get_set_ne _ _ hbd]; exact g0
      have hle : 0 + l.length * 4 ≤ (flat l ++ cs0).length := by rw [List.length_append, flat_len]; omega
      simp only [srcCells, takeCells, AbsA.get_resize, g1]
      rw [if_pos hle]
      simp only [List.drop_zero, Option.map_some]
      rw [List.take_append_of_le_length (by rw [flat_len]; omega), List.take_of_length_le (by rw [flat_len]; omega)]
    try simp (disch := first | assumption | simp) only [↓sbD, sbU, tyB, Nat.reduceMul, Nat.reduceSub, Int.reduceEq, Int.reduceLT, Int.reduceLE, Int.reduceNe, Nat.reduceBneDiff, Nat.reduceBEq, decide_false, gt_iff_lt, Bool.or_self, Bool.false_eq_true, Nat.mul_one, Nat.one_mul, Nat.zero_mul, ↓reduceIte, Nat.reduceEqDiff, Nat.reduceLT, Nat.reduceAdd, Nat.reduceLeDiff, reduceCtorEq, goInt, pairs, isConst, TI.isAgg, splice, boxS, Edp, dpv, Nat.beq_eq, ZV.val, List.any_cons, List.any_nil, Bool.false_and]
    exact downS_here (hq σ' v' h1 h2 h3)
theorem specIdx0 {f : Value} (h : Q (.int .i64 (-1)) σ) : CallS E B 104 [.slice none 0 0, f] σ Q := by
  refine call104 (by simp) ?_
  simp only [strip, bodyOf, Tryz.f104, getD_body, keepN, bareOp_mk, lessOp_mk, lapp_cons, lapp_nil, List.map_cons, List.map_nil, array_toList, ↓reduceIte, Nat.reduceEqDiff, Bool.false_eq_true]
  simp (disch := first | assumption | simp) only [↓sbD, sbU, tyB, Nat.reduceMul, Nat.reduceSub, Int.reduceEq, Int.reduceLT, Int.reduceLE, Int.reduceNe, Nat.reduceBneDiff, Nat.reduceBEq, decide_false, gt_iff_lt, Bool.or_self, Bool.false_eq_true, Nat.mul_one, Nat.one_mul, Nat.zero_mul, ↓reduceIte, Nat.reduceEqDiff, Nat.reduceLT, Nat.reduceAdd, Nat.reduceLeDiff, reduceCtorEq, goInt, pairs, isConst, TI.isAgg, splice, boxS, Edp, dpv, Nat.beq_eq, ZV.val, List.any_cons, List.any_nil, Bool.false_and]
  refine S_loop (fun m f σ' => σ' = σ ∧ f 8 = .int .i64 0) 0 (Le.refl _) ⟨rfl, by simp (disch := first | assumption | simp) only [↓sbD, sbU, tyB, Nat.reduceMul, Nat.reduceSub, Int.reduceEq, Int.reduceLT, Int.reduceLE, Int.reduceNe, Nat.reduceBneDiff, Nat.reduceBEq, decide_false, gt_iff_lt, Bool.or_self, Bool.false_eq_true, Nat.mul_one, Nat.one_mul, Nat.zero_mul, ↓reduceIte, Nat.reduceEqDiff, Nat.reduceLT, Nat.reduceAdd, Nat.reduceLeDiff, reduceCtorEq, goInt, pairs, isConst, TI.isAgg, splice, boxS, Edp, dpv, Nat.beq_eq, ZV.val, List.any_cons, List.any_nil, Bool.false_and]⟩ ?_
  rintro m f σ' ⟨rfl, f8⟩ hf
  have f7 := hf 7 (by decide) (notMem_wr (by kernel_rfl))
  simp (disch := first | assumption | simp) only [↓sbD, sbU, tyB, Nat.reduceMul, Nat.reduceSub, Int.reduceEq, Int.reduceLT, Int.reduceLE, Int.reduceNe, Nat.reduceBneDiff, Nat.reduceBEq, decide_false, gt_iff_lt, Bool.or_self, Bool.false_eq_true, Nat.mul_one, Nat.one_mul, Nat.zero_mul, ↓reduceIte, Nat.reduceEqDiff, Nat.reduceLT, Nat.reduceAdd, Nat.reduceLeDiff, reduceCtorEq, goInt, pairs, isConst, TI.isAgg, splice, boxS, Edp, dpv, Nat.beq_eq, ZV.val, List.any_cons, List.any_nil, Bool.false_and] at f7
  clear hf
  have h00 : ((0 : Nat) : Int) = 0 := rfl
  simp (disch := first | assumption | simp) only [↓sbD, sbU, tyB, Nat.reduceMul, Nat.reduceSub, Int.reduceEq, Int.reduceLT, Int.reduceLE, Int.reduceNe, Nat.reduceBneDiff, Nat.reduceBEq, decide_false, gt_iff_lt, Bool.or_self, Bool.false_eq_true, Nat.mul_one, Nat.one_mul, Nat.zero_mul, ↓reduceIte, Nat.reduceEqDiff, Nat.reduceLT, Nat.reduceAdd, Nat.reduceLeDiff, reduceCtorEq, goInt, pairs, isConst, TI.isAgg, splice, boxS, Edp, dpv, Nat.beq_eq, ZV.val, List.any_cons, List.any_nil, Bool.false_and, f7, f8, h00]
  exact downS_here h
theorem specDel0 {f : Value} (h : Q (.slice none 0 0) σ) : CallS E B 94 [.slice none 0 0, f] σ Q := by
  refine call94 (by simp) ?_
  simp only [strip, bodyOf, Tryz.f94, getD_body, keepN, bareOp_mk, lessOp_mk, lapp_cons, lapp_nil, List.map_cons, List.map_nil, array_toList, ↓reduceIte, Nat.reduceEqDiff, Bool.false_eq_true]
  simp (disch := first | assumption | simp) only [↓sbD, sbU, tyB, Nat.reduceMul, Nat.reduceSub, Int.reduceEq, Int.reduceLT, Int.reduceLE, Int.reduceNe, Nat.reduceBneDiff, Nat.reduceBEq, decide_false, gt_iff_lt, Bool.or_self, Bool.false_eq_true, Nat.mul_one, Nat.one_mul, Nat.zero_mul, ↓reduceIte, Nat.reduceEqDiff, Nat.reduceLT, Nat.reduceAdd, Nat.reduceLeDiff, reduceCtorEq, goInt, pairs, isConst, TI.isAgg, splice, boxS, Edp, dpv, Nat.beq_eq, ZV.val, List.any_cons, List.any_nil, Bool.false_and]
  refine specIdx0 ?_
  simp (disch := first | assumption | simp) only [↓sbD, sbU, tyB, Nat.reduceMul, Nat.reduceSub, Int.reduceEq, Int.reduceLT, Int.reduceLE, Int.reduceNe, Nat.reduceBneDiff, Nat.reduceBEq, decide_false, gt_iff_lt, Bool.or_self, Bool.false_eq_true, Nat.mul_one, Nat.one_mul, Nat.zero_mul, ↓reduceIte, Nat.reduceEqDiff, Nat.reduceLT, Nat.reduceAdd, Nat.reduceLeDiff, reduceCtorEq, goInt, pairs, isConst, TI.isAgg, splice, boxS, Edp, dpv, Nat.beq_eq, ZV.val, List.any_cons, List.any_nil, Bool.false_and]
  exact downS_here h
theorem arr_map {α β : Type} (f : α → β) (l : List α) : Array.map f ⟨l⟩ = ⟨l.map f⟩ := by simp
theorem dpI : dp 3 = false := rfl
theorem specWithoutS {v : Value} {l : List Pr} {id : Int} (hv : PS σ v l) (hs : l.length ≤ 100000)
    (hq : ∀ σ' v', WS σ' v' (l.filter fun p => !decide (p.id = id)) → (∀ b, σ.get b ≠ .dead → σ'.get b = σ.get b) → (∀ d ex n c, v' = .slice (some ⟨d, 0, ex⟩) n c → σ.get d = .dead) → Q v' σ') :
    CallS E B 74 [v, .int .i64 id] σ Q := by
  refine call74 (by simp) ?_
  simp only [strip, bodyOf, Tryz.f74, getD_body, keepN, bareOp_mk, lessOp_mk, lapp_cons, lapp_nil, List.map_cons, List.map_nil, array_toList, ↓reduceIte, Nat.reduceEqDiff, Bool.false_eq_true]
  simp (disch := first | assumption | simp) only [↓sbD, sbU, tyB, Nat.reduceMul, Nat.reduceSub, Int.reduceEq, Int.reduceLT, Int.reduceLE, Int.reduceNe, Nat.reduceBneDiff, Nat.reduceBEq, decide_false, gt_iff_lt, Bool.or_self, Bool.false_eq_true, Nat.mul_one, Nat.one_mul, Nat.zero_mul, ↓reduceIte, Nat.reduceEqDiff, Nat.reduceLT, Nat.reduceAdd, Nat.reduceLeDiff, reduceCtorEq, goInt, pairs, isConst, TI.isAgg, splice, boxS, Edp, dpv, Nat.beq_eq, ZV.val, List.any_cons, List.any_nil, Bool.false_and, AS_new, dpI]
  intro c hc
  generalize hσ1 : AHeap.set σ c _ = σ1
  have hc1 : σ1.get c = .cells [.int .i64 id] true 0 := by rw [← hσ1]; exact AHeap.get_set_same _ _ _
  have hk1 : ∀ b, σ.get b ≠ .dead → σ1.get b = σ.get b := fun b hb => by rw [← hσ1]; exact AHeap.get_set_ne _ _ (by rintro rfl; exact hb hc)
  clear hσ1
  try simp (disch := first | assumption | simp) only [↓sbD, sbU, tyB, Nat.reduceMul, Nat.reduceSub, Int.reduceEq, Int.reduceLT, Int.reduceLE, Int.reduceNe, Nat.reduceBneDiff, Nat.reduceBEq, decide_false, gt_iff_lt, Bool.or_self, Bool.false_eq_true, Nat.mul_one, Nat.one_mul, Nat.zero_mul, ↓reduceIte, Nat.reduceEqDiff, Nat.reduceLT, Nat.reduceAdd, Nat.reduceLeDiff, reduceCtorEq, goInt, pairs, isConst, TI.isAgg, splice, boxS, Edp, dpv, Nat.beq_eq, ZV.val, List.any_cons, List.any_nil, Bool.false_and]
  refine specCloW (hv.kept hk1) hs fun σ2 v2 hw hk2 hshape => ?_
  have hk12 : ∀ b, σ.get b ≠ .dead → σ2.get b = σ.get b := fun b hb => by rw [hk2 b (by rw [hk1 b hb]; exact hb), hk1 b hb]
  rcases hshape with rfl | ⟨d, ex, rfl, hd, gd, hex⟩
  · have hl : l = [] := by
      rcases hw with ⟨h, _⟩ | ⟨d, ex, c', cs, h, _⟩
      · exact h
      · cases h
    subst hl
    simp (disch := first | assumption | simp) only [↓sbD, sbU, tyB, Nat.reduceMul, Nat.reduceSub, Int.reduceEq, Int.reduceLT, Int.reduceLE, Int.reduceNe, Nat.reduceBneDiff, Nat.reduceBEq, decide_false, gt_iff_lt, Bool.or_self, Bool.false_eq_true, Nat.mul_one, Nat.one_mul, Nat.zero_mul, ↓reduceIte, Nat.reduceEqDiff, Nat.reduceLT, Nat.reduceAdd, Nat.reduceLeDiff, reduceCtorEq, goInt, pairs, isConst, TI.isAgg, splice, boxS, Edp, dpv, Nat.beq_eq, ZV.val, List.any_cons, List.any_nil, Bool.false_and, arr_map]
    refine specDel0 ?_
    simp (disch := first | assumption | simp) only [↓sbD, sbU, tyB, Nat.reduceMul, Nat.reduceSub, Int.reduceEq, Int.reduceLT, Int.reduceLE, Int.reduceNe, Nat.reduceBneDiff, Nat.reduceBEq, decide_false, gt_iff_lt, Bool.or_self, Bool.false_eq_true, Nat.mul_one, Nat.one_mul, Nat.zero_mul, ↓reduceIte, Nat.reduceEqDiff, Nat.reduceLT, Nat.reduceAdd, Nat.reduceLeDiff, reduceCtorEq, goInt, pairs, isConst, TI.isAgg, splice, boxS, Edp, dpv, Nat.beq_eq, ZV.val, List.any_cons, List.any_nil, Bool.false_and]
    exact downS_here (hq _ _ (.inl ⟨rfl, rfl⟩) hk12 fun d ex n c h => by cases h)
  · have hc2 : σ2.get c = .cells [.int .i64 id] true 0 := by rw [hk2 c (by rw [hc1]; simp)]; exact hc1
    have hcd : c ≠ d := by rintro rfl; rw [hc1] at hd; cases hd
    simp (disch := first | assumption | simp) only [↓sbD, sbU, tyB, Nat.reduceMul, Nat.reduceSub, Int.reduceEq, Int.reduceLT, Int.reduceLE, Int.reduceNe, Nat.reduceBneDiff, Nat.reduceBEq, decide_false, gt_iff_lt, Bool.or_self, Bool.false_eq_true, Nat.mul_one, Nat.one_mul, Nat.zero_mul, ↓reduceIte, Nat.reduceEqDiff, Nat.reduceLT, Nat.reduceAdd, Nat.reduceLeDiff, reduceCtorEq, goInt, pairs, isConst, TI.isAgg, splice, boxS, Edp, dpv, Nat.beq_eq, ZV.val, List.any_cons, List.any_nil, Bool.false_and, arr_map]
    refine specDelW gd hc2 hcd hs fun σ3 cp cs g3 hle hln hk3 => ?_
    simp (disch := first | assumption | simp) only [↓sbD, sbU, tyB, Nat.reduceMul, Nat.reduceSub, Int.reduceEq, Int.reduceLT, Int.reduceLE, Int.reduceNe, Nat.reduceBneDiff, Nat.reduceBEq, decide_false, gt_iff_lt, Bool.or_self, Bool.false_eq_true, Nat.mul_one, Nat.one_mul, Nat.zero_mul, ↓reduceIte, Nat.reduceEqDiff, Nat.reduceLT, Nat.reduceAdd, Nat.reduceLeDiff, reduceCtorEq, goInt, pairs, isConst, TI.isAgg, splice, boxS, Edp, dpv, Nat.beq_eq, ZV.val, List.any_cons, List.any_nil, Bool.false_and]
    refine downS_here (hq σ3 _ (.inr ⟨d, _, _, _, rfl, g3, hle, hln, hex⟩) (fun b hb => ?_) fun d' ex' n' c' he => ?_)
    rotate_left
    · injection he with he; injection he with he; injection he with he
      subst he
      by_cases h0 : σ.get d = .dead
      · exact h0
      · rw [hk1 d h0] at hd; exact hd
    have hbd : b ≠ d := by rintro rfl; rw [hk1 b hb] at hd; exact hb hd
    rw [hk3 b (by rw [hk12 b hb]; exact hb) hbd, hk12 b hb]
end
end Go.Proofs.YtdiekikcnfjlnaaGreat.AbsS
namespace Go.Proofs.YtdiekikcnfjlnaaGreat.AbsS
open Go AbsYtdiekikcnfjlnaaGreat Abs
open AbsA (Pr propC Kept drawS_l lastP_cc lastP_one)
set_option maxRecDepth 100000
set_option maxHeartbeats 4000000
set_option linter.unusedSimpArgs false
set_option linter.unusedVariables false
attribute [local irreducible] afterS afterOpS opSK OpsS TrS CodeS condS condW thenS thenQ guardS guardTS outS drawS trSK consS
section
variable {σ : AHeap} {Q : Value → AHeap → Prop}
/-- a message -/
def msgC (t p : ByteArray) (q : Int) (r : Bool) (v : Value) (f : ByteArray) (u n : Int) (g : ByteArray) : List Value := [.string t, .string p, .int .i64 q, .bool r, v, .string f, .int .i64 u, .int .i64 n, .string g]
theorem zeMsg : azero E 28 = some [.string ⟨#[]⟩, .string ⟨#[]⟩, .int .i64 0, .bool false, .slice none 0 0, .string ⟨#[]⟩, .int .i64 0, .int .i64 0, .string ⟨#[]⟩] := rfl
theorem dpM : dp 28 = false := rfl
theorem specCome {t p f g : ByteArray} {q u n now : Int} {r : Bool} {v : Value} (hv : vcells v = [v] ∧ oneCell v = true) (hq : ∀ σ' b, (∀ c, σ.get c ≠ .dead → σ'.get c = σ.get c) → Q (.bool b) σ') : CallS E B 68 [.agg ⟨msgC t p q r v f u n g⟩, .int .i64 now] σ Q := by
  simp only [msgC]
  refine call68 (by simp) ?_
  simp only [strip, bodyOf, Tryz.f68, getD_body, keepN, bareOp_mk, lessOp_mk, lapp_cons, lapp_nil, List.map_cons, List.map_nil, array_toList, ↓reduceIte, Nat.reduceEqDiff, Bool.false_eq_true]
  simp (disch := first | assumption | simp) only [↓sbD, sbU, tyB, Nat.reduceMul, Nat.reduceSub, Int.reduceEq, Int.reduceLT, Int.reduceLE, Int.reduceNe, Nat.reduceBneDiff, Nat.reduceBEq, decide_false, gt_iff_lt, Bool.or_self, Bool.false_eq_true, Nat.mul_one, Nat.one_mul, Nat.zero_mul, ↓reduceIte, Nat.reduceEqDiff, Nat.reduceLT, Nat.reduceAdd, Nat.reduceLeDiff, reduceCtorEq, goInt, pairs, isConst, TI.isAgg, splice, boxS, Edp, dpv, Nat.beq_eq, ZV.val, List.any_cons, List.any_nil, Bool.false_and, AS_new, dpM, hv.1, hv.2]
  intro b hb
  have hk : ∀ (o : AObj) c, σ.get c ≠ .dead → (AHeap.set σ b o).get c = σ.get c := fun o c hc => AHeap.get_set_ne _ _ (by rintro rfl; exact hc hb)
  by_cases h1 : 0 < u
  · by_cases h2 : u ≤ now
    · simp (disch := first | assumption | simp) only [↓sbD, sbU, tyB, Nat.reduceMul, Nat.reduceSub, Int.reduceEq, Int.reduceLT, Int.reduceLE, Int.reduceNe, Nat.reduceBneDiff, Nat.reduceBEq, decide_false, gt_iff_lt, Bool.or_self, Bool.false_eq_true, Nat.mul_one, Nat.one_mul, Nat.zero_mul, ↓reduceIte, Nat.reduceEqDiff, Nat.reduceLT, Nat.reduceAdd, Nat.reduceLeDiff, reduceCtorEq, goInt, pairs, isConst, TI.isAgg, splice, boxS, Edp, dpv, Nat.beq_eq, ZV.val, List.any_cons, List.any_nil, Bool.false_and, AHeap.get_set_same, h1, h2]
      exact downS_here (hq _ _ (hk _))
    · simp (disch := first | assumption | simp) only [↓sbD, sbU, tyB, Nat.reduceMul, Nat.reduceSub, Int.reduceEq, Int.reduceLT, Int.reduceLE, Int.reduceNe, Nat.reduceBneDiff, Nat.reduceBEq, decide_false, gt_iff_lt, Bool.or_self, Bool.false_eq_true, Nat.mul_one, Nat.one_mul, Nat.zero_mul, ↓reduceIte, Nat.reduceEqDiff, Nat.reduceLT, Nat.reduceAdd, Nat.reduceLeDiff, reduceCtorEq, goInt, pairs, isConst, TI.isAgg, splice, boxS, Edp, dpv, Nat.beq_eq, ZV.val, List.any_cons, List.any_nil, Bool.false_and, AHeap.get_set_same, h1, h2]
      exact downS_here (hq _ _ (hk _))
  · simp (disch := first | assumption | simp) only [↓sbD, sbU, tyB, Nat.reduceMul, Nat.reduceSub, Int.reduceEq, Int.reduceLT, Int.reduceLE, Int.reduceNe, Nat.reduceBneDiff, Nat.reduceBEq, decide_false, gt_iff_lt, Bool.or_self, Bool.false_eq_true, Nat.mul_one, Nat.one_mul, Nat.zero_mul, ↓reduceIte, Nat.reduceEqDiff, Nat.reduceLT, Nat.reduceAdd, Nat.reduceLeDiff, reduceCtorEq, goInt, pairs, isConst, TI.isAgg, splice, boxS, Edp, dpv, Nat.beq_eq, ZV.val, List.any_cons, List.any_nil, Bool.false_and, AHeap.get_set_same, h1]
    exact downS_here (hq _ _ (hk _))
/-- one more behind what may be written -/
theorem app_oneW {K : Value → AHeap → Prop} {v : Value} {l : List Pr} {p : Pr} {d1 : Nat} {ex1 : Option Nat} {c1 : Nat} (hv : WS σ v l) (g1 : σ.get d1 = .cells (flat [p]) true 4) (hs : l.length ≤ 100000)
    (hq : ∀ σ' v', (vcells v' = [v'] ∧ oneCell v' = true) → (∀ b, σ.get b ≠ .dead → (∀ d ex n c, v = .slice (some ⟨d, 0, ex⟩) n c → b ≠ d) → σ'.get b = σ.get b) → K v' σ') :
    afterOpS E B (some (.any fun b => aappend E (σ.resize b) [26, 26] [v, .slice (some ⟨d1, 0, ex1⟩) 1 c1])) σ K := by
  simp (disch := first | assumption | simp) only [↓sbD, sbU, tyB, Nat.reduceMul, Nat.reduceSub, Int.reduceEq, Int.reduceLT, Int.reduceLE, Int.reduceNe, Nat.reduceBneDiff, Nat.reduceBEq, decide_false, gt_iff_lt, Bool.or_self, Bool.false_eq_true, Nat.mul_one, Nat.one_mul, Nat.zero_mul, ↓reduceIte, Nat.reduceEqDiff, Nat.reduceLT, Nat.reduceAdd, Nat.reduceLeDiff, reduceCtorEq, goInt, pairs, isConst, TI.isAgg, splice, boxS, Edp, dpv, Nat.beq_eq, ZV.val, List.any_cons, List.any_nil, Bool.false_and, AS_any]
  intro b hb
  have hbd := AbsA.dead_of hb
  have hx : srcCells (σ.resize b) 4 (.slice (some ⟨d1, 0, ex1⟩) 1 c1) = some (1, flat [p]) := by
    simp only [srcCells, takeCells, AbsA.get_resize, g1]
    rfl
  have hoc := flat_oc [p]
  have hbn : ∀ c, σ.get c ≠ .dead → b ≠ c := fun c hc e => hc (e ▸ hbd)
  rcases hv with ⟨rfl, rfl⟩ | ⟨d, ex, c, cs, rfl, gd, hlc, hlen, hex⟩
  · refine ⟨.slice (some ⟨b, 0, none⟩) 1 1, (σ.resize b).alloc (.cells (flat [p]) true 4), ?_, hq _ _ ⟨rfl, rfl⟩ fun c hc _ => AHeap.get_alloc_ne _ _ (hbn c hc)⟩
    simp only [aappend, ty26, ty78, zeP, hx]
    simp only [hoc, show E.dp 26 = false from rfl]
    rfl
  · by_cases hfull : l.length + 1 ≤ c
    · have hst : astoreAt (σ.resize b) d (l.length * 4) (flat [p]) = some ((σ.resize b).set d (.cells (splice (flat l ++ cs) (l.length * 4) (flat [p])) true 4)) := by
        have hle : l.length * 4 + (flat [p]).length ≤ (flat l ++ cs).length := by rw [hlen]; show l.length * 4 + 4 ≤ _; omega
        simp only [astoreAt, AbsA.get_resize, gd, hoc, Bool.true_and]
        rw [if_pos (by simpa using hle)]
      refine ⟨.slice (some ⟨d, 0, ex⟩) (l.length + 1) c, (σ.resize b).set d (.cells (splice (flat l ++ cs) (l.length * 4) (flat [p])) true 4), ?_, hq _ _ ⟨rfl, rfl⟩ fun c' hc' hne => (show ((σ.resize b).set d _).get c' = σ.get c' from AHeap.get_set_ne _ _ (hne d ex _ _ rfl).symm)⟩
      simp only [aappend, ty26, ty78, zeP, hx, AbsA.get_resize, gd, Nat.zero_add, hst]
      simp only [hfull, if_true]
      rfl
    · have hc : c = l.length := by omega
      subst hc
      have c1' : (l.length + 1) * 48 ≤ 140737488355328 := by omega
      rcases hex with rfl | rfl
      · refine ⟨.slice (some ⟨b, 0, none⟩) (l.length + 1) (l.length + 1), ((σ.resize b).set d .dead).alloc (.cells ((flat l ++ cs).drop 0 ++ flat [p]) true 4), ?_, hq _ _ ⟨rfl, rfl⟩ fun c' hc' hne => ?_⟩
        · have h0 : 0 + l.length * 4 = (flat l ++ cs).length := by rw [hlen]; omega
          simp only [aappend, ty26, ty78, zeP, hx, AbsA.get_resize, gd, hfull, c1', hoc, h0]
          rfl
        · show (((σ.resize b).set d .dead).alloc _).get c' = _
          rw [AHeap.get_alloc_ne _ _ (hbn c' hc'), AHeap.get_set_ne _ _ (hne d none _ _ rfl).symm]; rfl
      · have hle : 0 + l.length * 4 ≤ (flat l ++ cs).length := by rw [hlen]; omega
        refine ⟨.slice (some ⟨b, 0, none⟩) (l.length + 1) (l.length + 1), (σ.resize b).alloc (.cells ((((flat l ++ cs).drop 0).take (l.length * 4)) ++ flat [p]) true 4), ?_, hq _ _ ⟨rfl, rfl⟩ fun c' hc' hne => AHeap.get_alloc_ne _ _ (hbn c' hc')⟩
        simp only [aappend, ty26, ty78, zeP, hx, AbsA.get_resize, takeCells, gd, hfull, c1', hoc, hle]
        rfl
theorem any_sl {o : AObj} {K : Value → AHeap → Prop} (hq : ∀ d, σ.get d = .dead → K (.slice (some ⟨d, 0, some 1⟩) 1 1) (σ.set d o)) : afterOpS E B (some (.any fun b => some (.slice (some ⟨b, 0, some 1⟩) 1 1, (σ.resize b).alloc o))) σ K := by
  simp (disch := first | assumption | simp) only [↓sbD, sbU, tyB, Nat.reduceMul, Nat.reduceSub, Int.reduceEq, Int.reduceLT, Int.reduceLE, Int.reduceNe, Nat.reduceBneDiff, Nat.reduceBEq, decide_false, gt_iff_lt, Bool.or_self, Bool.false_eq_true, Nat.mul_one, Nat.one_mul, Nat.zero_mul, ↓reduceIte, Nat.reduceEqDiff, Nat.reduceLT, Nat.reduceAdd, Nat.reduceLeDiff, reduceCtorEq, goInt, pairs, isConst, TI.isAgg, splice, boxS, Edp, dpv, Nat.beq_eq, ZV.val, List.any_cons, List.any_nil, Bool.false_and, AS_any]
  intro d hd
  exact ⟨_, _, rfl, hq d (AbsA.dead_of hd)⟩
theorem specLeft {t p f g : ByteArray} {q u n now : Int} {r : Bool} {v : Value} {l : List Pr} (hv : PS σ v l) (hs : l.length ≤ 100000)
    (hq : ∀ σ' v' b t' p' f' g' q' u' n' r', (vcells v' = [v'] ∧ oneCell v' = true) → (∀ c, σ.get c ≠ .dead → σ'.get c = σ.get c) → Q (.tuple #[.agg ⟨msgC t' p' q' r' v' f' u' n' g'⟩, .bool b]) σ') :
    CallS E B 54 [.agg ⟨msgC t p q r v f u n g⟩, .int .i64 now] σ Q := by
  have hvc := hv.vc
  simp only [msgC]
  refine call54 (by simp) ?_
  simp only [strip, bodyOf, Tryz.f54, getD_body, keepN, bareOp_mk, lessOp_mk, lapp_cons, lapp_nil, List.map_cons, List.map_nil, array_toList, ↓reduceIte, Nat.reduceEqDiff, Bool.false_eq_true]
  simp (disch := first | assumption | simp) only [↓sbD, sbU, tyB, Nat.reduceMul, Nat.reduceSub, Int.reduceEq, Int.reduceLT, Int.reduceLE, Int.reduceNe, Nat.reduceBneDiff, Nat.reduceBEq, decide_false, gt_iff_lt, Bool.or_self, Bool.false_eq_true, Nat.mul_one, Nat.one_mul, Nat.zero_mul, ↓reduceIte, Nat.reduceEqDiff, Nat.reduceLT, Nat.reduceAdd, Nat.reduceLeDiff, reduceCtorEq, goInt, pairs, isConst, TI.isAgg, splice, boxS, Edp, dpv, Nat.beq_eq, ZV.val, List.any_cons, List.any_nil, Bool.false_and, AS_new, dpM, zeMsg, hvc.1, hvc.2]
  intro a ha b hb
  have hab : a ≠ b := by rintro rfl; rw [AHeap.get_set_same] at hb; cases hb
  have hbd : σ.get b = .dead := by rw [AHeap.get_set_ne _ _ hab] at hb; exact hb
  generalize hσ1 : AHeap.set (AHeap.set σ a _) b _ = σ1
  have k1 : Kept σ [] σ1 [] := by rw [← hσ1]; exact ((AbsA.Kept.refl σ []).setD ha).setD hbd
  have ga1 : σ1.get a = .cells [.string t, .string p, .int .i64 q, .bool r, v, .string f, .int .i64 u, .int .i64 n, .string g] true 0 := by rw [← hσ1, AHeap.get_set_ne _ _ hab.symm]; exact AHeap.get_set_same _ _ _
  have gb1 : σ1.get b = .cells [.string ⟨#[]⟩, .string ⟨#[]⟩, .int .i64 0, .bool false, .slice none 0 0, .string ⟨#[]⟩, .int .i64 0, .int .i64 0, .string ⟨#[]⟩] true 0 := by rw [← hσ1]; exact AHeap.get_set_same _ _ _
  clear hσ1
  try simp (disch := first | assumption | simp) only [↓sbD, sbU, tyB, Nat.reduceMul, Nat.reduceSub, Int.reduceEq, Int.reduceLT, Int.reduceLE, Int.reduceNe, Nat.reduceBneDiff, Nat.reduceBEq, decide_false, gt_iff_lt, Bool.or_self, Bool.false_eq_true, Nat.mul_one, Nat.one_mul, Nat.zero_mul, ↓reduceIte, Nat.reduceEqDiff, Nat.reduceLT, Nat.reduceAdd, Nat.reduceLeDiff, reduceCtorEq, goInt, pairs, isConst, TI.isAgg, splice, boxS, Edp, dpv, Nat.beq_eq, ZV.val, List.any_cons, List.any_nil, Bool.false_and, ga1]
  refine specCome hvc fun σ2 c hk2 => ?_
  have ga2 : σ2.get a = _ := (hk2 a (by rw [ga1]; simp)).trans ga1
  have gb2 : σ2.get b = _ := (hk2 b (by rw [gb1]; simp)).trans gb1
  have k2 : Kept σ [] σ2 [] := k1.trans ⟨fun b hb _ => hk2 b hb, fun _ h => by cases h⟩
  have hv2 : PS σ2 v l := hv.kept fun b hb => k2.get b hb (by simp)
  cases c with
  | true =>
    simp (disch := first | assumption | simp) only [↓sbD, sbU, tyB, Nat.reduceMul, Nat.reduceSub, Int.reduceEq, Int.reduceLT, Int.reduceLE, Int.reduceNe, Nat.reduceBneDiff, Nat.reduceBEq, decide_false, gt_iff_lt, Bool.or_self, Bool.false_eq_true, Nat.mul_one, Nat.one_mul, Nat.zero_mul, ↓reduceIte, Nat.reduceEqDiff, Nat.reduceLT, Nat.reduceAdd, Nat.reduceLeDiff, reduceCtorEq, goInt, pairs, isConst, TI.isAgg, splice, boxS, Edp, dpv, Nat.beq_eq, ZV.val, List.any_cons, List.any_nil, Bool.false_and, gb2, AHeap.get_set_same, AbsA.res_cellc, AbsA.resC_some]
    exact downS_here (hq _ _ _ _ _ _ _ _ _ _ _ ⟨rfl, rfl⟩ fun c hc => (k2.setD hbd).get c hc (by simp))
  | false =>
    simp (disch := first | assumption | simp) only [↓sbD, sbU, tyB, Nat.reduceMul, Nat.reduceSub, Int.reduceEq, Int.reduceLT, Int.reduceLE, Int.reduceNe, Nat.reduceBneDiff, Nat.reduceBEq, decide_false, gt_iff_lt, Bool.or_self, Bool.false_eq_true, Nat.mul_one, Nat.one_mul, Nat.zero_mul, ↓reduceIte, Nat.reduceEqDiff, Nat.reduceLT, Nat.reduceAdd, Nat.reduceLeDiff, reduceCtorEq, goInt, pairs, isConst, TI.isAgg, splice, boxS, Edp, dpv, Nat.beq_eq, ZV.val, List.any_cons, List.any_nil, Bool.false_and, ga2]
    refine specCloW hv2 hs fun σ3 w hw hk3 _ => ?_
    have ga3 : σ3.get a = _ := (hk3 a (by rw [ga2]; simp)).trans ga2
    have gb3 : σ3.get b = _ := (hk3 b (by rw [gb2]; simp)).trans gb2
    have k3 : Kept σ [] σ3 [] := k2.trans ⟨fun b hb _ => hk3 b hb, fun _ h => by cases h⟩
    have hwc := hw.ps.vc
    simp (disch := first | assumption | simp) only [↓sbD, sbU, tyB, Nat.reduceMul, Nat.reduceSub, Int.reduceEq, Int.reduceLT, Int.reduceLE, Int.reduceNe, Nat.reduceBneDiff, Nat.reduceBEq, decide_false, gt_iff_lt, Bool.or_self, Bool.false_eq_true, Nat.mul_one, Nat.one_mul, Nat.zero_mul, ↓reduceIte, Nat.reduceEqDiff, Nat.reduceLT, Nat.reduceAdd, Nat.reduceLeDiff, reduceCtorEq, goInt, pairs, isConst, TI.isAgg, splice, boxS, Edp, dpv, Nat.beq_eq, ZV.val, List.any_cons, List.any_nil, Bool.false_and, ga3, hwc.1, hwc.2, List.length_cons, List.length_nil, List.cons_append, List.nil_append, List.drop_succ_cons, List.drop_zero, List.set_cons_zero, List.set_cons_succ, decide_true]
    generalize hσ4 : AHeap.set σ3 a _ = σ4
    have k4 : Kept σ [] σ4 [] := by rw [← hσ4]; exact k3.setD ha
    have ga4 : σ4.get a = .cells [.string t, .string p, .int .i64 q, .bool r, w, .string f, .int .i64 u, .int .i64 n, .string g] true 0 := by rw [← hσ4]; exact AHeap.get_set_same _ _ _
    have gb4 : σ4.get b = _ := (show σ4.get b = σ3.get b by rw [← hσ4]; exact AHeap.get_set_ne _ _ hab).trans gb3
    have hw4 : WS σ4 w l := by
      rcases hw with h | ⟨d, ex, c, cs, h1, h2, h3⟩
      · exact .inl h
      · have hda : a ≠ d := by rintro rfl; rw [ga3] at h2; simp at h2
        exact .inr ⟨d, ex, c, cs, h1, by rw [← hσ4, AHeap.get_set_ne _ _ hda]; exact h2, h3⟩
    clear hσ4
    by_cases hu : 0 < u
    · simp (disch := first | assumption | simp) only [↓sbD, sbU, tyB, Nat.reduceMul, Nat.reduceSub, Int.reduceEq, Int.reduceLT, Int.reduceLE, Int.reduceNe, Nat.reduceBneDiff, Nat.reduceBEq, decide_false, gt_iff_lt, Bool.or_self, Bool.false_eq_true, Nat.mul_one, Nat.one_mul, Nat.zero_mul, ↓reduceIte, Nat.reduceEqDiff, Nat.reduceLT, Nat.reduceAdd, Nat.reduceLeDiff, reduceCtorEq, goInt, pairs, isConst, TI.isAgg, splice, boxS, Edp, dpv, Nat.beq_eq, ZV.val, List.any_cons, List.any_nil, Bool.false_and, ga4, hu]
      refine specWithoutS hw4.ps hs fun σ5 x hx hk5 hnew => ?_
      have ga5 : σ5.get a = _ := (hk5 a (by rw [ga4]; simp)).trans ga4
      have gb5 : σ5.get b = _ := (hk5 b (by rw [gb4]; simp)).trans gb4
      have k5 : Kept σ [] σ5 [] := k4.trans ⟨fun b hb _ => hk5 b hb, fun _ h => by cases h⟩
      simp (disch := first | assumption | simp) only [↓sbD, sbU, tyB, Nat.reduceMul, Nat.reduceSub, Int.reduceEq, Int.reduceLT, Int.reduceLE, Int.reduceNe, Nat.reduceBneDiff, Nat.reduceBEq, decide_false, gt_iff_lt, Bool.or_self, Bool.false_eq_true, Nat.mul_one, Nat.one_mul, Nat.zero_mul, ↓reduceIte, Nat.reduceEqDiff, Nat.reduceLT, Nat.reduceAdd, Nat.reduceLeDiff, reduceCtorEq, goInt, pairs, isConst, TI.isAgg, splice, boxS, Edp, dpv, Nat.beq_eq, ZV.val, List.any_cons, List.any_nil, Bool.false_and, ga5]
      refine any_sl fun d hd => ?_
      have hda : a ≠ d := by rintro rfl; rw [ga5] at hd; cases hd
      have hdb : b ≠ d := by rintro rfl; rw [gb5] at hd; cases hd
      generalize hσ6 : AHeap.set σ5 d _ = σ6
      have hk6 : ∀ b, σ5.get b ≠ .dead → σ6.get b = σ5.get b := fun b hb => by rw [← hσ6]; exact AHeap.get_set_ne _ _ (by rintro rfl; exact hb hd)
      obtain ⟨pr, g6⟩ : ∃ pr : Pr, σ6.get d = .cells (flat [pr]) true 4 := ⟨⟨_, _, _, _⟩, by rw [← hσ6]; exact AHeap.get_set_same _ _ _⟩
      clear hσ6
      try simp (disch := first | assumption | simp) only [↓sbD, sbU, tyB, Nat.reduceMul, Nat.reduceSub, Int.reduceEq, Int.reduceLT, Int.reduceLE, Int.reduceNe, Nat.reduceBneDiff, Nat.reduceBEq, decide_false, gt_iff_lt, Bool.or_self, Bool.false_eq_true, Nat.mul_one, Nat.one_mul, Nat.zero_mul, ↓reduceIte, Nat.reduceEqDiff, Nat.reduceLT, Nat.reduceAdd, Nat.reduceLeDiff, reduceCtorEq, goInt, pairs, isConst, TI.isAgg, splice, boxS, Edp, dpv, Nat.beq_eq, ZV.val, List.any_cons, List.any_nil, Bool.false_and]
      have hls : (l.filter fun p => !decide (p.id = 2)).length ≤ 100000 := Nat.le_trans (List.length_filter_le _ _) hs
      refine app_oneW (p := pr) (hx.kept hk6) g6 hls fun σ7 y hy hk7 => ?_
      have nx : ∀ c, σ5.get c ≠ .dead → (∀ cs, σ5.get c ≠ .cells cs true 4) → σ7.get c = σ5.get c := fun c hc hcs => by
        rw [hk7 c (by rw [hk6 c hc]; exact hc) (fun d' ex n' c' he hcd => ?_), hk6 c hc]
        subst hcd
        rcases hx with ⟨_, h⟩ | ⟨d2, ex2, c2, cs2, h, h2, _⟩
        · rw [h] at he; cases he
        · rw [h] at he; injection he with he; injection he with he; injection he with he; subst he; exact hcs _ h2
      have ga7 : σ7.get a = _ := (nx a (by rw [ga5]; simp) (fun cs h => by rw [ga5] at h; simp at h)).trans ga5
      have gb7 : σ7.get b = _ := (nx b (by rw [gb5]; simp) (fun cs h => by rw [gb5] at h; simp at h)).trans gb5
      simp (disch := first | assumption | simp) only [↓sbD, sbU, tyB, Nat.reduceMul, Nat.reduceSub, Int.reduceEq, Int.reduceLT, Int.reduceLE, Int.reduceNe, Nat.reduceBneDiff, Nat.reduceBEq, decide_false, gt_iff_lt, Bool.or_self, Bool.false_eq_true, Nat.mul_one, Nat.one_mul, Nat.zero_mul, ↓reduceIte, Nat.reduceEqDiff, Nat.reduceLT, Nat.reduceAdd, Nat.reduceLeDiff, reduceCtorEq, goInt, pairs, isConst, TI.isAgg, splice, boxS, Edp, dpv, Nat.beq_eq, ZV.val, List.any_cons, List.any_nil, Bool.false_and, ga7, gb7, hy.1, hy.2, List.length_cons, List.length_nil, List.cons_append, List.nil_append, List.drop_succ_cons, List.drop_zero, List.set_cons_zero, List.set_cons_succ, decide_true]
      refine drawS_l (fl := [(4, 2)]) (by kernel_rfl) ?_ ?_
      rotate_left; simp only [lastP_cc, lastP_one]; rotate_left
      · simp only [List.all_cons, List.all_nil, floatS, List.getElem?_cons_succ, List.getElem?_cons_zero, List.getElem?_toArray, Region.wanted, Bool.not_true, Bool.not_false, Bool.false_or, Bool.true_or, Bool.or_true, Bool.true_and, reads, looksWeak, aev_tmp, aev_const, upd_at, ↓reduceIte, Nat.reduceEqDiff, Nat.reduceLT, Nat.reduceAdd, ofL_zero, ofL_succ, blkOf, oeq_refl, oeq_of, dead_cells, dead_map, Bool.and_true, Bool.and_self, Bool.false_eq_true, Bool.not_false, ga4, ga5, ga7, gb4, gb5, gb7, AHeap.get_set_same]
        try rfl
      have k7 : ∀ c, σ.get c ≠ .dead → σ7.get c = σ.get c := fun c hc => by
        have h4 := k4.get c hc (by simp)
        have h5 := k5.get c hc (by simp)
        have hc5 : σ5.get c ≠ .dead := by rw [h5]; exact hc
        rw [hk7 c (by rw [hk6 c hc5]; exact hc5) (fun d' ex n' c' he hcd => ?_), hk6 c hc5, h5]
        subst hcd
        exact absurd (hnew _ _ _ _ he) (by rw [h4]; exact hc)
      generalize hσ8 : AHeap.set σ7 a _ = σ8
      have ga8 : σ8.get a = .cells [.string t, .string p, .int .i64 q, .bool r, y, .string f, .int .i64 u, .int .i64 n, .string g] true 0 := by rw [← hσ8]; exact AHeap.get_set_same _ _ _
      have gb8 : σ8.get b = _ := (show σ8.get b = σ7.get b by rw [← hσ8]; exact AHeap.get_set_ne _ _ hab).trans gb7
      have hk8 : ∀ c, σ7.get c ≠ .dead → c ≠ a → σ8.get c = σ7.get c := fun c hc hca => by rw [← hσ8]; exact AHeap.get_set_ne _ _ hca.symm
      clear hσ8
      try simp (disch := first | assumption | simp) only [↓sbD, sbU, tyB, Nat.reduceMul, Nat.reduceSub, Int.reduceEq, Int.reduceLT, Int.reduceLE, Int.reduceNe, Nat.reduceBneDiff, Nat.reduceBEq, decide_false, gt_iff_lt, Bool.or_self, Bool.false_eq_true, Nat.mul_one, Nat.one_mul, Nat.zero_mul, ↓reduceIte, Nat.reduceEqDiff, Nat.reduceLT, Nat.reduceAdd, Nat.reduceLeDiff, reduceCtorEq, goInt, pairs, isConst, TI.isAgg, splice, boxS, Edp, dpv, Nat.beq_eq, ZV.val, List.any_cons, List.any_nil, Bool.false_and]
      simp (disch := first | assumption | simp) only [↓sbD, sbU, tyB, Nat.reduceMul, Nat.reduceSub, Int.reduceEq, Int.reduceLT, Int.reduceLE, Int.reduceNe, Nat.reduceBneDiff, Nat.reduceBEq, decide_false, gt_iff_lt, Bool.or_self, Bool.false_eq_true, Nat.mul_one, Nat.one_mul, Nat.zero_mul, ↓reduceIte, Nat.reduceEqDiff, Nat.reduceLT, Nat.reduceAdd, Nat.reduceLeDiff, reduceCtorEq, goInt, pairs, isConst, TI.isAgg, splice, boxS, Edp, dpv, Nat.beq_eq, ZV.val, List.any_cons, List.any_nil, Bool.false_and, ga8, gb8, AHeap.get_set_same, hy.1, hy.2, AbsA.res_cellc, AbsA.resC_some]
      refine downS_here (hq _ _ _ _ _ _ _ _ _ _ _ hy fun c hc => ?_)
      have hca : c ≠ a := by rintro rfl; exact hc ha
      have hcb : b ≠ c := by rintro rfl; exact hc hbd
      rw [AHeap.get_set_ne _ _ hcb, hk8 c (by rw [k7 c hc]; exact hc) hca, k7 c hc]
    · simp (disch := first | assumption | simp) only [↓sbD, sbU, tyB, Nat.reduceMul, Nat.reduceSub, Int.reduceEq, Int.reduceLT, Int.reduceLE, Int.reduceNe, Nat.reduceBneDiff, Nat.reduceBEq, decide_false, gt_iff_lt, Bool.or_self, Bool.false_eq_true, Nat.mul_one, Nat.one_mul, Nat.zero_mul, ↓reduceIte, Nat.reduceEqDiff, Nat.reduceLT, Nat.reduceAdd, Nat.reduceLeDiff, reduceCtorEq, goInt, pairs, isConst, TI.isAgg, splice, boxS, Edp, dpv, Nat.beq_eq, ZV.val, List.any_cons, List.any_nil, Bool.false_and, ga4, gb4, hu, AHeap.get_set_same, hwc.1, hwc.2, AbsA.res_cellc, AbsA.resC_some]
      exact downS_here (hq _ _ _ _ _ _ _ _ _ _ _ hwc fun c hc => (k4.setD hbd).get c hc (by simp))
end
end Go.Proofs.YtdiekikcnfjlnaaGreat.AbsS
namespace Go.Proofs.YtdiekikcnfjlnaaGreat.AbsA
open Go AbsYtdiekikcnfjlnaaGreat Abs
open AbsS (msgC)
set_option maxRecDepth 100000
set_option maxHeartbeats 4000000
set_option linter.unusedSimpArgs false
set_option linter.unusedVariables false
def DL {α : Type} (enc : α → List Value) (sz : Nat) (v : Value) (l : List α) : Prop := (l = [] ∧ v = .slice none 0 0) ∨ ∃ m, v = dsl m sz l.length (l.flatMap enc)
theorem typed_int {H : AHeap} {d : Nat} {xs : List Value} (h : Typed E H d 3 xs) : ∃ n, xs = [.int .i64 n] ∧ (Lit.int .i64 n).wf = true := by
  cases d with
  | zero => exact h.elim
  | succ d => simpa only [Typed, ty3] using h
theorem typed_str {H : AHeap} {d : Nat} {xs : List Value} (h : Typed E H d 9 xs) : ∃ s : ByteArray, xs = [.string s] ∧ s.size ≤ maxLen := by
  cases d with
  | zero => exact h.elim
  | succ d => simpa only [Typed, ty9] using h
theorem typed_pr {H : AHeap} {d : Nat} {xs : List Value} (h : Typed E H d 78 xs) : ∃ a : Pr, xs = propC a := by
  cases d with
  | zero => exact h.elim
  | succ d =>
    simp only [Typed, ty78] at h
    obtain ⟨hl, hp⟩ := h
    match xs, hl with
    | [x, y, z, w], _ =>
      obtain ⟨j, j1, j2⟩ := hp (0, 3, false) (by simp)
      rw [ty3] at j1; injection j1 with j1; subst j1
      obtain ⟨n1, e1, _⟩ := typed_int (by simpa using j2)
      obtain ⟨j, j1, j2⟩ := hp (1, 3, false) (by simp)
      rw [ty3] at j1; injection j1 with j1; subst j1
      obtain ⟨n2, e2, _⟩ := typed_int (by simpa using j2)
      obtain ⟨j, j1, j2⟩ := hp (2, 9, false) (by simp)
      rw [ty9] at j1; injection j1 with j1; subst j1
      obtain ⟨s, e3, _⟩ := typed_str (by simpa using j2)
      obtain ⟨j, j1, j2⟩ := hp (3, 9, false) (by simp)
      rw [ty9] at j1; injection j1 with j1; subst j1
      obtain ⟨t, e4, _⟩ := typed_str (by simpa using j2)
      simp only [List.cons.injEq, and_true] at e1 e2 e3 e4
      exact ⟨⟨n1, n2, s, t⟩, by rw [e1, e2, e3, e4]; rfl⟩
structure Sb where
  f : ByteArray
  q : Int
  nl : Bool
  ai : Bool
  rt : Int
def subC (x : Sb) : List Value := [.string x.f, .int .i64 x.q, .bool x.nl, .bool x.ai, .int .i64 x.rt]
structure Wl where
  has : Bool
  topic : ByteArray
  pay : ByteArray
  qos : Int
  ret : Bool
  props : List Pr
structure Pk where
  kind : Int
  id : Int
  rea : Int
  props : List Pr
  clean : Bool
  keep : Int
  client : ByteArray
  will : Wl
  hasU : Bool
  user : ByteArray
  hasP : Bool
  pass : ByteArray
  present : Bool
  topic : ByteArray
  pay : ByteArray
  qos : Int
  ret : Bool
  dup : Bool
  subs : List Sb
  filts : List ByteArray
  codes : List Int
def strC1 (s : ByteArray) : List Value := [.string s]
def intC (n : Int) : List Value := [.int .i64 n]
def wlC (w : Wl) (vw : Value) : List Value := [.bool w.has, .string w.topic, .string w.pay, .int .i64 w.qos, .bool w.ret, vw]
def pkC (p : Pk) (vp vw vs vf vc : Value) : List Value := [.int .i64 p.kind, .int .i64 p.id, .int .i64 p.rea, vp, .bool p.clean, .int .i64 p.keep, .string p.client, .bool p.will.has, .string p.will.topic, .string p.will.pay, .int .i64 p.will.qos, .bool p.will.ret, vw, .bool p.hasU, .string p.user, .bool p.hasP, .string p.pass, .bool p.present, .string p.topic, .string p.pay, .int .i64 p.qos, .bool p.ret, .bool p.dup, vs, vf, vc]
theorem typed_b {H : AHeap} {d : Nat} {xs : List Value} (h : Typed E H d 4 xs) : ∃ b, xs = [.bool b] := by
  cases d with
  | zero => exact h.elim
  | succ d => simpa only [Typed, ty4] using h
theorem typedL_pr {H : AHeap} {d : Nat} {xs : List Value} (h : Typed E H d 26 xs) : ∃ v l, xs = [v] ∧ DL propC 4 v (l : List Pr) ∧ frz E.ng E.nb v = true := by
  cases d with
  | zero => exact h.elim
  | succ d =>
    simp only [Typed, ty26] at h
    rcases h with rfl | ⟨h2, _⟩ | ⟨_, n, j, cs, hj, rfl, hl, hk⟩
    · exact ⟨_, [], rfl, .inl ⟨rfl, rfl⟩, frz_nils⟩
    · cases h2
    · rw [ty78] at hj; injection hj with hj; subst hj
      obtain ⟨l, h3, h4⟩ := chunks (enc := propC) (fun a => rfl) n cs hl fun k hk' => typed_pr (hk k hk')
      exact ⟨_, l, rfl, .inr ⟨0, by rw [h3, ← h4]⟩, by rw [frz_dsl]; rfl⟩
theorem typedL_s {H : AHeap} {d : Nat} {xs : List Value} (h : Typed E H d 32 xs) : ∃ v l, xs = [v] ∧ DL strC1 1 v (l : List ByteArray) ∧ frz E.ng E.nb v = true := by
  cases d with
  | zero => exact h.elim
  | succ d =>
    simp only [Typed, ty32] at h
    rcases h with rfl | ⟨h2, _⟩ | ⟨_, n, j, cs, hj, rfl, hl, hk⟩
    · exact ⟨_, [], rfl, .inl ⟨rfl, rfl⟩, frz_nils⟩
    · cases h2
    · rw [ty9] at hj; injection hj with hj; subst hj
      obtain ⟨l, h3, h4⟩ := chunks (enc := strC1) (fun a => rfl) n cs hl fun k hk' => by obtain ⟨s, hs, _⟩ := typed_str (hk k hk'); exact ⟨s, hs⟩
      exact ⟨_, l, rfl, .inr ⟨0, by rw [h3, ← h4]⟩, by rw [frz_dsl]; rfl⟩
theorem typedL_i {H : AHeap} {d : Nat} {xs : List Value} (h : Typed E H d 33 xs) : ∃ v l, xs = [v] ∧ DL intC 1 v (l : List Int) ∧ frz E.ng E.nb v = true := by
  cases d with
  | zero => exact h.elim
  | succ d =>
    simp only [Typed, ty33] at h
    rcases h with rfl | ⟨h2, _⟩ | ⟨_, n, j, cs, hj, rfl, hl, hk⟩
    · exact ⟨_, [], rfl, .inl ⟨rfl, rfl⟩, frz_nils⟩
    · cases h2
    · rw [ty3] at hj; injection hj with hj; subst hj
      obtain ⟨l, h3, h4⟩ := chunks (enc := intC) (fun a => rfl) n cs hl fun k hk' => by obtain ⟨s, hs, _⟩ := typed_int (hk k hk'); exact ⟨s, hs⟩
      exact ⟨_, l, rfl, .inr ⟨0, by rw [h3, ← h4]⟩, by rw [frz_dsl]; rfl⟩
theorem typed_sb {H : AHeap} {d : Nat} {xs : List Value} (h : Typed E H d 25 xs) : ∃ a : Sb, xs = subC a := by
  cases d with
  | zero => exact h.elim
  | succ d =>
    simp only [Typed, ty25] at h
    obtain ⟨hl, hp⟩ := h
    match xs, hl with
    | [x0, x1, x2, x3, x4], _ =>
      obtain ⟨j, j1, j2⟩ := hp (0, 9, false) (by simp)
      rw [ty9] at j1; injection j1 with j1; subst j1
      obtain ⟨af, eaf, _⟩ := typed_str (by simpa using j2)
      obtain ⟨j, j1, j2⟩ := hp (1, 3, false) (by simp)
      rw [ty3] at j1; injection j1 with j1; subst j1
      obtain ⟨aq, eaq, _⟩ := typed_int (by simpa using j2)
      obtain ⟨j, j1, j2⟩ := hp (2, 4, false) (by simp)
      rw [ty4] at j1; injection j1 with j1; subst j1
      obtain ⟨anl, eanl⟩ := typed_b (by simpa using j2)
      obtain ⟨j, j1, j2⟩ := hp (3, 4, false) (by simp)
      rw [ty4] at j1; injection j1 with j1; subst j1
      obtain ⟨aai, eaai⟩ := typed_b (by simpa using j2)
      obtain ⟨j, j1, j2⟩ := hp (4, 3, false) (by simp)
      rw [ty3] at j1; injection j1 with j1; subst j1
      obtain ⟨art, eart, _⟩ := typed_int (by simpa using j2)
      simp only [List.cons.injEq, and_true] at eaf eaq eanl eaai eart
      exact ⟨⟨af, aq, anl, aai, art⟩, by rw [eaf, eaq, eanl, eaai, eart]; rfl⟩
theorem typedL_sb {H : AHeap} {d : Nat} {xs : List Value} (h : Typed E H d 31 xs) : ∃ v l, xs = [v] ∧ DL subC 5 v (l : List Sb) ∧ frz E.ng E.nb v = true := by
  cases d with
  | zero => exact h.elim
  | succ d =>
    simp only [Typed, ty31] at h
    rcases h with rfl | ⟨h2, _⟩ | ⟨_, n, j, cs, hj, rfl, hl, hk⟩
    · exact ⟨_, [], rfl, .inl ⟨rfl, rfl⟩, frz_nils⟩
    · cases h2
    · rw [ty25] at hj; injection hj with hj; subst hj
      obtain ⟨l, h3, h4⟩ := chunks (enc := subC) (fun a => rfl) n cs hl fun k hk' => typed_sb (hk k hk')
      exact ⟨_, l, rfl, .inr ⟨0, by rw [h3, ← h4]⟩, by rw [frz_dsl]; rfl⟩
theorem typed_wl {H : AHeap} {d : Nat} {xs : List Value} (h : Typed E H d 30 xs) : ∃ (w : Wl) (vw : Value), DL propC 4 vw w.props ∧ xs = wlC w vw ∧ frz E.ng E.nb vw = true := by
  cases d with
  | zero => exact h.elim
  | succ d =>
    simp only [Typed, ty30] at h
    obtain ⟨hl, hp⟩ := h
    match xs, hl with
    | [x0, x1, x2, x3, x4, x5], _ =>
      obtain ⟨j, j1, j2⟩ := hp (0, 4, false) (by simp)
      rw [ty4] at j1; injection j1 with j1; subst j1
      obtain ⟨ahas, eahas⟩ := typed_b (by simpa using j2)
      obtain ⟨j, j1, j2⟩ := hp (1, 9, false) (by simp)
      rw [ty9] at j1; injection j1 with j1; subst j1
      obtain ⟨atopic, eatopic, _⟩ := typed_str (by simpa using j2)
      obtain ⟨j, j1, j2⟩ := hp (2, 9, false) (by simp)
      rw [ty9] at j1; injection j1 with j1; subst j1
      obtain ⟨apay, eapay, _⟩ := typed_str (by simpa using j2)
      obtain ⟨j, j1, j2⟩ := hp (3, 3, false) (by simp)
      rw [ty3] at j1; injection j1 with j1; subst j1
      obtain ⟨aqos, eaqos, _⟩ := typed_int (by simpa using j2)
      obtain ⟨j, j1, j2⟩ := hp (4, 4, false) (by simp)
      rw [ty4] at j1; injection j1 with j1; subst j1
      obtain ⟨aret, earet⟩ := typed_b (by simpa using j2)
      obtain ⟨j, j1, j2⟩ := hp (5, 26, false) (by simp)
      rw [ty26] at j1; injection j1 with j1; subst j1
      obtain ⟨vaprops, aprops, eaprops, daprops, zaprops⟩ := typedL_pr (by simpa using j2)
      simp only [List.cons.injEq, and_true] at eahas eatopic eapay eaqos earet eaprops
      exact ⟨⟨ahas, atopic, apay, aqos, aret, aprops⟩, vaprops, daprops, by rw [eahas, eatopic, eapay, eaqos, earet, eaprops]; rfl, zaprops⟩
theorem propC_len (a : Pr) : (propC a).length = 4 := rfl
theorem DLp.len {v : Value} {l : List Pr} (h : DL propC 4 v l) (σ : AHeap) : abuiltin E σ .len [26] [v] = some (.int .i64 (l.length : Int), σ) := by
  rcases h with ⟨rfl, rfl⟩ | ⟨m, rfl⟩ <;> rfl
theorem DLp.at {v : Value} {l : List Pr} (h : DL propC 4 v l) {i : Nat} (hi : i < l.length) : aindexAddr E 26 v (.int .i64 (i : Int)) = some (dptr (propC l[i] ++ (l.drop (i + 1)).flatMap propC)) := by
  rcases h with ⟨rfl, rfl⟩ | ⟨m, rfl⟩
  · simp at hi
  · rw [ia_dsl hi, drop_flat propC_len hi]; rfl
theorem typedC_pk {H : AHeap} {d : Nat} {xs : List Value} (h1 : Typed E H d 35 xs) : ∃ (p : Pk) (vp vw vs vf vc : Value), DL propC 4 vp p.props ∧ DL propC 4 vw p.will.props ∧ DL subC 5 vs p.subs ∧ DL strC1 1 vf p.filts ∧ DL intC 1 vc p.codes ∧ xs = pkC p vp vw vs vf vc := by
  cases d with
  | zero => exact h1.elim
  | succ d =>
    simp only [Typed, ty35] at h1
    obtain ⟨hl, hp⟩ := h1
    match xs, hl with
    | [x0, x1, x2, x3, x4, x5, x6, x7, x8, x9, x10, x11, x12, x13, x14, x15, x16, x17, x18, x19, x20, x21, x22, x23, x24, x25], _ =>
      obtain ⟨j, j1, j2⟩ := hp (0, 3, false) (by simp)
      rw [ty3] at j1; injection j1 with j1; subst j1
      obtain ⟨akind, eakind, _⟩ := typed_int (by simpa using j2)
      obtain ⟨j, j1, j2⟩ := hp (1, 3, false) (by simp)
      rw [ty3] at j1; injection j1 with j1; subst j1
      obtain ⟨aid, eaid, _⟩ := typed_int (by simpa using j2)
      obtain ⟨j, j1, j2⟩ := hp (2, 3, false) (by simp)
      rw [ty3] at j1; injection j1 with j1; subst j1
      obtain ⟨area, earea, _⟩ := typed_int (by simpa using j2)
      obtain ⟨j, j1, j2⟩ := hp (3, 26, false) (by simp)
      rw [ty26] at j1; injection j1 with j1; subst j1
      obtain ⟨vaprops, aprops, eaprops, daprops, zaprops⟩ := typedL_pr (by simpa using j2)
      obtain ⟨j, j1, j2⟩ := hp (4, 4, false) (by simp)
      rw [ty4] at j1; injection j1 with j1; subst j1
      obtain ⟨aclean, eaclean⟩ := typed_b (by simpa using j2)
      obtain ⟨j, j1, j2⟩ := hp (5, 3, false) (by simp)
      rw [ty3] at j1; injection j1 with j1; subst j1
      obtain ⟨akeep, eakeep, _⟩ := typed_int (by simpa using j2)
      obtain ⟨j, j1, j2⟩ := hp (6, 9, false) (by simp)
      rw [ty9] at j1; injection j1 with j1; subst j1
      obtain ⟨aclient, eaclient, _⟩ := typed_str (by simpa using j2)
      obtain ⟨j, j1, j2⟩ := hp (7, 30, false) (by simp)
      rw [ty30] at j1; injection j1 with j1; subst j1
      obtain ⟨w, vw, dw, ew, zw⟩ := typed_wl (by simpa using j2)
      obtain ⟨j, j1, j2⟩ := hp (13, 4, false) (by simp)
      rw [ty4] at j1; injection j1 with j1; subst j1
      obtain ⟨ahasU, eahasU⟩ := typed_b (by simpa using j2)
      obtain ⟨j, j1, j2⟩ := hp (14, 9, false) (by simp)
      rw [ty9] at j1; injection j1 with j1; subst j1
      obtain ⟨auser, eauser, _⟩ := typed_str (by simpa using j2)
      obtain ⟨j, j1, j2⟩ := hp (15, 4, false) (by simp)
      rw [ty4] at j1; injection j1 with j1; subst j1
      obtain ⟨ahasP, eahasP⟩ := typed_b (by simpa using j2)
      obtain ⟨j, j1, j2⟩ := hp (16, 9, false) (by simp)
      rw [ty9] at j1; injection j1 with j1; subst j1
      obtain ⟨apass, eapass, _⟩ := typed_str (by simpa using j2)
      obtain ⟨j, j1, j2⟩ := hp (17, 4, false) (by simp)
      rw [ty4] at j1; injection j1 with j1; subst j1
      obtain ⟨apresent, eapresent⟩ := typed_b (by simpa using j2)
      obtain ⟨j, j1, j2⟩ := hp (18, 9, false) (by simp)
      rw [ty9] at j1; injection j1 with j1; subst j1
      obtain ⟨atopic, eatopic, _⟩ := typed_str (by simpa using j2)
      obtain ⟨j, j1, j2⟩ := hp (19, 9, false) (by simp)
      rw [ty9] at j1; injection j1 with j1; subst j1
      obtain ⟨apay, eapay, _⟩ := typed_str (by simpa using j2)
      obtain ⟨j, j1, j2⟩ := hp (20, 3, false) (by simp)
      rw [ty3] at j1; injection j1 with j1; subst j1
      obtain ⟨aqos, eaqos, _⟩ := typed_int (by simpa using j2)
      obtain ⟨j, j1, j2⟩ := hp (21, 4, false) (by simp)
      rw [ty4] at j1; injection j1 with j1; subst j1
      obtain ⟨aret, earet⟩ := typed_b (by simpa using j2)
      obtain ⟨j, j1, j2⟩ := hp (22, 4, false) (by simp)
      rw [ty4] at j1; injection j1 with j1; subst j1
      obtain ⟨adup, eadup⟩ := typed_b (by simpa using j2)
      obtain ⟨j, j1, j2⟩ := hp (23, 31, false) (by simp)
      rw [ty31] at j1; injection j1 with j1; subst j1
      obtain ⟨vasubs, asubs, easubs, dasubs, zasubs⟩ := typedL_sb (by simpa using j2)
      obtain ⟨j, j1, j2⟩ := hp (24, 32, false) (by simp)
      rw [ty32] at j1; injection j1 with j1; subst j1
      obtain ⟨vafilts, afilts, eafilts, dafilts, zafilts⟩ := typedL_s (by simpa using j2)
      obtain ⟨j, j1, j2⟩ := hp (25, 33, false) (by simp)
      rw [ty33] at j1; injection j1 with j1; subst j1
      obtain ⟨vacodes, acodes, eacodes, dacodes, zacodes⟩ := typedL_i (by simpa using j2)
      simp only [List.cons.injEq, and_true, wlC] at ew eakind eaid earea eaprops eaclean eakeep eaclient eahasU eauser eahasP eapass eapresent eatopic eapay eaqos earet eadup easubs eafilts eacodes
      obtain ⟨w0, w1, w2, w3, w4, w5⟩ := ew
      subst eakind eaid earea eaprops eaclean eakeep eaclient eahasU eauser eahasP eapass eapresent eatopic eapay eaqos earet eadup easubs eafilts eacodes w0 w1 w2 w3 w4 w5
      exact ⟨⟨akind, aid, area, aprops, aclean, akeep, aclient, w, ahasU, auser, ahasP, apass, apresent, atopic, apay, aqos, aret, adup, asubs, afilts, acodes⟩, _, _, _, _, _, daprops, dw, dasubs, dafilts, dacodes, rfl⟩
structure Tm where
  e : Int
  r : Int
  p : Int
  a : Int
  k : Int
  b : Bool
def tmC (t : Tm) : List Value := [.int .i64 t.e, .int .i64 t.r, .int .i64 t.p, .int .i64 t.a, .int .i64 t.k, .bool t.b]
theorem typed_tm {H : AHeap} {d : Nat} {xs : List Value} (h : Typed E H d 23 xs) : ∃ t : Tm, xs = tmC t := by
  cases d with
  | zero => exact h.elim
  | succ d =>
    simp only [Typed, ty23] at h
    obtain ⟨hl, hp⟩ := h
    match xs, hl with
    | [x0, x1, x2, x3, x4, x5], _ =>
      obtain ⟨j, j1, j2⟩ := hp (0, 3, false) (by simp)
      rw [ty3] at j1; injection j1 with j1; subst j1
      obtain ⟨a0, ea0, _⟩ := typed_int (by simpa using j2)
      obtain ⟨j, j1, j2⟩ := hp (1, 3, false) (by simp)
      rw [ty3] at j1; injection j1 with j1; subst j1
      obtain ⟨a1, ea1, _⟩ := typed_int (by simpa using j2)
      obtain ⟨j, j1, j2⟩ := hp (2, 3, false) (by simp)
      rw [ty3] at j1; injection j1 with j1; subst j1
      obtain ⟨a2, ea2, _⟩ := typed_int (by simpa using j2)
      obtain ⟨j, j1, j2⟩ := hp (3, 3, false) (by simp)
      rw [ty3] at j1; injection j1 with j1; subst j1
      obtain ⟨a3, ea3, _⟩ := typed_int (by simpa using j2)
      obtain ⟨j, j1, j2⟩ := hp (4, 3, false) (by simp)
      rw [ty3] at j1; injection j1 with j1; subst j1
      obtain ⟨a4, ea4, _⟩ := typed_int (by simpa using j2)
      obtain ⟨j, j1, j2⟩ := hp (5, 4, false) (by simp)
      rw [ty4] at j1; injection j1 with j1; subst j1
      obtain ⟨a5, ea5⟩ := typed_b (by simpa using j2)
      simp only [List.cons.injEq, and_true] at ea0 ea1 ea2 ea3 ea4 ea5
      exact ⟨⟨a0, a1, a2, a3, a4, a5⟩, by rw [ea0, ea1, ea2, ea3, ea4, ea5]; rfl⟩
theorem typed_msg {H : AHeap} {d : Nat} {xs : List Value} (h : Typed E H d 28 xs) : ∃ (t p f g : ByteArray) (q u n : Int) (r : Bool) (v : Value) (l : List Pr), DL propC 4 v l ∧ xs = msgC t p q r v f u n g := by
  cases d with
  | zero => exact h.elim
  | succ d =>
    simp only [Typed, ty28] at h
    obtain ⟨hl, hp⟩ := h
    match xs, hl with
    | [x0, x1, x2, x3, x4, x5, x6, x7, x8], _ =>
      obtain ⟨j, j1, j2⟩ := hp (0, 9, false) (by simp)
      rw [ty9] at j1; injection j1 with j1; subst j1
      obtain ⟨a0, ea0, _⟩ := typed_str (by simpa using j2)
      obtain ⟨j, j1, j2⟩ := hp (1, 9, false) (by simp)
      rw [ty9] at j1; injection j1 with j1; subst j1
      obtain ⟨a1, ea1, _⟩ := typed_str (by simpa using j2)
      obtain ⟨j, j1, j2⟩ := hp (2, 3, false) (by simp)
      rw [ty3] at j1; injection j1 with j1; subst j1
      obtain ⟨a2, ea2, _⟩ := typed_int (by simpa using j2)
      obtain ⟨j, j1, j2⟩ := hp (3, 4, false) (by simp)
      rw [ty4] at j1; injection j1 with j1; subst j1
      obtain ⟨a3, ea3⟩ := typed_b (by simpa using j2)
      obtain ⟨j, j1, j2⟩ := hp (4, 26, false) (by simp)
      rw [ty26] at j1; injection j1 with j1; subst j1
      obtain ⟨va4, a4, ea4, da4, _⟩ := typedL_pr (by simpa using j2)
      obtain ⟨j, j1, j2⟩ := hp (5, 9, false) (by simp)
      rw [ty9] at j1; injection j1 with j1; subst j1
      obtain ⟨a5, ea5, _⟩ := typed_str (by simpa using j2)
      obtain ⟨j, j1, j2⟩ := hp (6, 3, false) (by simp)
      rw [ty3] at j1; injection j1 with j1; subst j1
      obtain ⟨a6, ea6, _⟩ := typed_int (by simpa using j2)
      obtain ⟨j, j1, j2⟩ := hp (7, 3, false) (by simp)
      rw [ty3] at j1; injection j1 with j1; subst j1
      obtain ⟨a7, ea7, _⟩ := typed_int (by simpa using j2)
      obtain ⟨j, j1, j2⟩ := hp (8, 9, false) (by simp)
      rw [ty9] at j1; injection j1 with j1; subst j1
      obtain ⟨a8, ea8, _⟩ := typed_str (by simpa using j2)
      simp only [List.cons.injEq, and_true] at ea0 ea1 ea2 ea3 ea4 ea5 ea6 ea7 ea8
      exact ⟨a0, a1, a5, a8, a2, a6, a7, a3, va4, a4, da4, by rw [ea0, ea1, ea2, ea3, ea4, ea5, ea6, ea7, ea8]; rfl⟩
structure Ac where
  k : Int
  t : Tm
  s : Sb
  mt : ByteArray
  mp : ByteArray
  mf : ByteArray
  mg : ByteArray
  mq : Int
  mu : Int
  mn : Int
  mr : Bool
  ml : List Pr
  p : Pk
  n : Int
  q : Int
def actC (a : Ac) (vm vp vw vs vf vc : Value) : List Value := .int .i64 a.k :: (tmC a.t ++ (subC a.s ++ (msgC a.mt a.mp a.mq a.mr vm a.mf a.mu a.mn a.mg ++ (pkC a.p vp vw vs vf vc ++ [.int .i64 a.n, .int .i64 a.q]))))
theorem typed_ac {H : AHeap} {d : Nat} {v : Value} (h : ArgTyped E H d 37 v) : ∃ (a : Ac) (vm vp vw vs vf vc : Value), DL propC 4 vm a.ml ∧ DL propC 4 vp a.p.props ∧ DL propC 4 vw a.p.will.props ∧ DL subC 5 vs a.p.subs ∧ DL strC1 1 vf a.p.filts ∧ DL intC 1 vc a.p.codes ∧ v = .agg ⟨actC a vm vp vw vs vf vc⟩ := by
  obtain ⟨xs, h1, rfl⟩ := h.agg ty37 rfl
  cases d with
  | zero => exact h1.elim
  | succ d =>
    simp only [Typed, ty37] at h1
    obtain ⟨hl, hp⟩ := h1
    obtain ⟨j, j1, j2⟩ := hp (0, 3, false) (by simp)
    rw [ty3] at j1; injection j1 with j1; subst j1
    obtain ⟨ak, e0, _⟩ := typed_int j2
    obtain ⟨j, j1, j2⟩ := hp (1, 23, false) (by simp)
    rw [ty23] at j1; injection j1 with j1; subst j1
    obtain ⟨at', e1⟩ := typed_tm j2
    obtain ⟨j, j1, j2⟩ := hp (7, 25, false) (by simp)
    rw [ty25] at j1; injection j1 with j1; subst j1
    obtain ⟨asb, e2⟩ := typed_sb j2
    obtain ⟨j, j1, j2⟩ := hp (12, 28, false) (by simp)
    rw [ty28] at j1; injection j1 with j1; subst j1
    obtain ⟨t, p, f, g, q, u, n, r, vm, ml, dm, e3⟩ := typed_msg j2
    obtain ⟨j, j1, j2⟩ := hp (21, 35, false) (by simp)
    rw [ty35] at j1; injection j1 with j1; subst j1
    obtain ⟨pk, vp, vw, vs, vf, vc, d1, d2, d3, d4, d5, e4⟩ := typedC_pk j2
    obtain ⟨j, j1, j2⟩ := hp (47, 3, false) (by simp)
    rw [ty3] at j1; injection j1 with j1; subst j1
    obtain ⟨an, e5, _⟩ := typed_int j2
    obtain ⟨j, j1, j2⟩ := hp (48, 3, false) (by simp)
    rw [ty3] at j1; injection j1 with j1; subst j1
    obtain ⟨aq, e6, _⟩ := typed_int j2
    refine ⟨⟨ak, at', asb, t, p, f, g, q, u, n, r, ml, pk, an, aq⟩, vm, vp, vw, vs, vf, vc, dm, d1, d2, d3, d4, d5, ?_⟩
    have hx : xs = actC ⟨ak, at', asb, t, p, f, g, q, u, n, r, ml, pk, an, aq⟩ vm vp vw vs vf vc := by
      have c : ∀ a m : Nat, xs.drop a = (xs.drop a).take m ++ xs.drop (a + m) := fun a m => by rw [← List.drop_drop, List.take_append_drop]
      have z : xs.drop 49 = [] := List.drop_eq_nil_of_le (by omega)
      have c0 := c 0 1
      have c1 := c 1 6
      have c2 := c 7 5
      have c3 := c 12 9
      have c4 := c 21 26
      have c5 := c 47 1
      have c6 := c 48 1
      simp only at e0 e1 e2 e3 e4 e5 e6
      rw [e0] at c0
      rw [e1] at c1
      rw [e2] at c2
      rw [e3] at c3
      rw [e4] at c4
      rw [e5] at c5
      rw [e6, z] at c6
      rw [c6] at c5
      rw [c5] at c4
      rw [c4] at c3
      rw [c3] at c2
      rw [c2] at c1
      rw [c1] at c0
      exact c0
    rw [← hx]
    try rfl
theorem dl_vc {α : Type} {enc : α → List Value} {sz : Nat} {v : Value} {l : List α} (h : DL enc sz v l) : vcells v = [v] ∧ oneCell v = true := by
  rcases h with ⟨_, rfl⟩ | ⟨m, rfl⟩ <;> exact ⟨rfl, rfl⟩
end Go.Proofs.YtdiekikcnfjlnaaGreat.AbsA
