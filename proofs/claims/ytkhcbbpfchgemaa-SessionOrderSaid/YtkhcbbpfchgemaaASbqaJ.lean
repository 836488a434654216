/-
  Parts of a law's proof.
-/
import Derived.Test.YtkhcbbpfchgemaaAEnvD
import Derived.Test.YtkhcbbpfchgemaaAMf
import Derived.Test.YtkhcbbpfchgemaaAEnvF
namespace Go.Proofs.Ytkhcbbpfchgemaa.AbsA
open Go AbsYtkhcbbpfchgemaa Abs
set_option maxRecDepth 100000
set_option maxHeartbeats 4000000
set_option linter.unusedSimpArgs false
set_option linter.unusedVariables false
def resC (v : Option Value) (r : Option (List Value)) : Option (List Value) := match v, r with
  | some v, some r => some (v :: r)
  | _, _ => none
theorem res_cellc {E : Env} {H : AHeap} {n : Nat} {f : Nat → Value} {a t : Nat} {r : List ResultVar} : AbsYtkhcbbpfchgemaa.results E (L n f) H (.cell a t :: r) = resC (aload E H t (if a < n then f a else undef)) (AbsYtkhcbbpfchgemaa.results E (L n f) H r) := by
  have e : (L n f).getD a undef = if a < n then f a else undef := aev_tmp (t := a)
  simp only [AbsYtkhcbbpfchgemaa.results, e]
  cases aload E H t (if a < n then f a else undef) <;> cases AbsYtkhcbbpfchgemaa.results E (L n f) H r <;> rfl
theorem resC_some {v : Value} {r : List Value} : resC (some v) (some r) = some (v :: r) := rfl
def lastP (K : List Value → AHeap → Prop) : List (List Value × AHeap) → Prop
  | [] => False
  | [s] => K s.1 s.2
  | _ :: s :: l => lastP K (s :: l)
theorem lastP_cc {K : List Value → AHeap → Prop} {a b : List Value × AHeap} {l : List (List Value × AHeap)} : lastP K (a :: b :: l) = lastP K (b :: l) := rfl
theorem lastP_one {K : List Value → AHeap → Prop} {A : List Value} {H : AHeap} : lastP K [(A, H)] = K A H := rfl
theorem lastP_get {K : List Value → AHeap → Prop} : ∀ {l : List (List Value × AHeap)}, lastP K l → ∃ A H, l.getLast? = some (A, H) ∧ K A H
  | [], h => h.elim
  | [(A, H)], h => ⟨A, H, rfl, h⟩
  | _ :: s :: l, h => by
    obtain ⟨A, H, h1, h2⟩ := lastP_get (l := s :: l) h
    exact ⟨A, H, by rw [List.getLast?_cons_cons]; exact h1, h2⟩
theorem drawS_l {ops : Array Oper} {Q : AExit → List Value → AHeap → Prop} {tr : List (List Value × AHeap)} {fl : List (Nat × Nat)} (hf : floatPairs ops = fl) (h1 : fl.all (floatS B ops tr) = true) (h2 : lastP (Q .normal) tr) : drawS B ops Q tr := by
  obtain ⟨A, H, h3, h4⟩ := lastP_get h2
  exact drawS_of hf ⟨h1, A, H, h3, h4⟩
structure Kept (σ : AHeap) (fp : List Nat) (σ' : AHeap) (fp' : List Nat) : Prop where
  get : ∀ b, σ.get b ≠ .dead → b ∉ fp → σ'.get b = σ.get b
  new : ∀ b, b ∈ fp' → b ∈ fp ∨ σ.get b = .dead
theorem Kept.refl (σ : AHeap) (fp : List Nat) : Kept σ fp σ fp := ⟨fun _ _ _ => rfl, fun _ h => .inl h⟩
theorem Kept.trans {σ σ' σ'' : AHeap} {fp fp' fp'' : List Nat} (h : Kept σ fp σ' fp') (k : Kept σ' fp' σ'' fp'') : Kept σ fp σ'' fp'' where
  get b hb hn := by
    have h1 := h.get b hb hn
    rw [k.get b (by rw [h1]; exact hb) (fun hm => by rcases h.new b hm with h2 | h2; exact hn h2; exact hb h2), h1]
  new b hb := by
    rcases k.new b hb with h1 | h1
    · exact h.new b h1
    · by_cases hd : σ.get b = .dead
      · exact .inr hd
      · by_cases hn : b ∈ fp
        · exact .inl hn
        · rw [h.get b hd hn] at h1; exact .inr h1
theorem Kept.at {σ σ' : AHeap} {fp fp' : List Nat} (h : Kept σ fp σ' fp') {b : Nat} {o : AObj} (hg : σ.get b = o) (ho : o ≠ .dead) (hn : b ∉ fp) : σ'.get b = o ∧ b ∉ fp' :=
  ⟨by rw [h.get b (by rw [hg]; exact ho) hn, hg], fun hm => by rcases h.new b hm with h2 | h2; exact hn h2; rw [h2] at hg; exact ho hg.symm⟩
theorem Kept.set {σ : AHeap} {fp : List Nat} {b : Nat} {o : AObj} (hb : b ∈ fp) : Kept σ fp (σ.set b o) fp :=
  ⟨fun c _ hn => AHeap.get_set_ne _ _ (by rintro rfl; exact hn hb), fun _ h => .inl h⟩
theorem Kept.new' {σ : AHeap} {b : Nat} {o : AObj} (hb : σ.get b = .dead) : Kept σ [] (σ.set b o) [b] :=
  ⟨fun c hc _ => AHeap.get_set_ne _ _ (by rintro rfl; exact hc hb), fun c hc => by obtain rfl := List.mem_singleton.1 hc; exact .inr hb⟩
theorem get_resize {σ : AHeap} {n b : Nat} : (σ.resize n).get b = σ.get b := rfl
theorem Kept.none {σ σ' : AHeap} {fp fp' : List Nat} (h : Kept σ fp σ' fp') : Kept σ fp σ' [] := ⟨h.get, fun _ h => by cases h⟩
theorem Kept.wid {σ σ' : AHeap} {fp fp' gp gp' : List Nat} (k : Kept σ fp σ' fp') (h1 : ∀ b ∈ fp, b ∈ gp) (h2 : ∀ b ∈ gp', b ∈ fp' ∨ b ∈ gp) : Kept σ gp σ' gp' where
  get b hb hn := k.get b hb fun h => hn (h1 b h)
  new b hb := by
    rcases h2 b hb with h | h
    · rcases k.new b h with h | h
      · exact .inl (h1 b h)
      · exact .inr h
    · exact .inl h
theorem Kept.setD {σ σ' : AHeap} {fp fp' : List Nat} {c : Nat} {o : AObj} (k : Kept σ fp σ' fp') (hc : σ.get c = .dead) : Kept σ fp (σ'.set c o) fp' :=
  ⟨fun b hb hn => by rw [AHeap.get_set_ne _ _ (by rintro rfl; exact hb hc)]; exact k.get b hb hn, k.new⟩
theorem nd {τ : AHeap} {b x : Nat} {o : AObj} (hb : τ.get b = .dead) (hx : τ.get x = o) (ho : o ≠ .dead) : b ≠ x := by rintro rfl; rw [hx] at hb; exact ho hb
theorem dead_of {σ : AHeap} {b : Nat} (hb : ∀ c, ¬ σ.get c = .dead → c < b) : σ.get b = .dead := by
  rcases hg : σ.get b with _ | _ | _
  · rfl
  · exact absurd (hb b (by rw [hg]; simp)) (Nat.lt_irrefl _)
  · exact absurd (hb b (by rw [hg]; simp)) (Nat.lt_irrefl _)
theorem not_bool {b : Bool} : aun .not (.bool b) = some (.bool (!b)) := rfl
theorem chunks {α : Type} {enc : α → List Value} {sz : Nat} (hsz : ∀ a, (enc a).length = sz) : ∀ (n : Nat) (cs : List Value), cs.length = n * sz → (∀ k, k < n → ∃ a, (cs.drop (k * sz)).take sz = enc a) → ∃ l : List α, l.length = n ∧ cs = l.flatMap enc
  | 0, cs, hl, _ => ⟨[], rfl, by rw [Nat.zero_mul] at hl; exact List.eq_nil_of_length_eq_zero hl⟩
  | n + 1, cs, hl, h => by
    obtain ⟨a, ha⟩ := h 0 (by omega)
    rw [Nat.zero_mul, List.drop_zero] at ha
    obtain ⟨l, h1, h2⟩ := chunks hsz n (cs.drop sz) (by rw [List.length_drop, hl, Nat.succ_mul]; omega) (fun k hk => by
      obtain ⟨b, hb⟩ := h (k + 1) (by omega)
      refine ⟨b, ?_⟩
      rw [← hb, List.drop_drop, Nat.succ_mul, Nat.add_comm])
    exact ⟨a :: l, by simp [h1], by rw [List.flatMap_cons, ← ha, ← h2, List.take_append_drop]⟩
structure Pr where
  id : Int
  n : Int
  s : ByteArray
  v : ByteArray
deriving DecidableEq
def propC (p : Pr) : List Value := [.int .i64 p.id, .int .i64 p.n, .string p.s, .string p.v]
end Go.Proofs.Ytkhcbbpfchgemaa.AbsA
namespace Go.Proofs.Ytkhcbbpfchgemaa.AbsS
open Go AbsYtkhcbbpfchgemaa Abs
open AbsA (Pr propC)
set_option maxRecDepth 100000
set_option maxHeartbeats 4000000
set_option linter.unusedSimpArgs false
set_option linter.unusedVariables false
attribute [local irreducible] afterS afterOpS opSK OpsS TrS CodeS condS condW thenS thenQ guardS guardTS outS drawS trSK consS
def flat (l : List Pr) : List Value := l.flatMap propC
theorem flat_len (l : List Pr) : (flat l).length = l.length * 4 := by
  induction l with
  | nil => rfl
  | cons a l ih => show (propC a ++ flat l).length = _; rw [List.length_append, ih]; simp [propC]; omega
section
variable {σ : AHeap} {Q : Value → AHeap → Prop}
theorem zeP : azero E 93 = some [.int .i64 0, .int .i64 0, .string ⟨#[]⟩, .string ⟨#[]⟩] := rfl
theorem ia_sl {d n c i : Nat} {ex : Option Nat} (hi : i < n) : aindexAddr E 32 (.slice (some ⟨d, 0, ex⟩) n c) (.int .i64 (i : Int)) = some (.pointer (some ⟨d, i * 4, none⟩)) := by
  simp only [aindexAddr, ty32, ty93]
  rw [if_pos (by omega)]
  simp
theorem eq_nil {cs : Bool} : abin E σ .eql 32 cs (.slice none 0 0) (.slice none 0 0) = some (.bool true) := by
  simp only [abin, nonNum, eqAsk, aeq, ty32]
  cases cs <;> rfl
theorem eq_dsl {cs : Bool} {m sz n : Nat} {xs : List Value} : abin E σ .eql 32 cs (dsl m sz n xs) (.slice none 0 0) = some (.bool false) := by
  simp only [abin, nonNum, eqAsk, aeq, ty32]
  cases cs <;> rfl
theorem bs_zero {K : Value → AHeap → Prop} (hq : ∀ b, σ.get b = .dead → K (.slice (some ⟨b, 0, some 1⟩) 0 0) (σ.set b (.cells [] true 4))) : afterOpS E B (some (bsS E σ 32 0 [])) σ K := by
  simp (disch := first | assumption | simp) only [↓sbD, sbU, tyB, Nat.reduceMul, Nat.reduceSub, Int.reduceEq, Int.reduceLT, Int.reduceLE, Int.reduceNe, Nat.reduceBneDiff, Nat.reduceBEq, decide_false, gt_iff_lt, Bool.or_self, Bool.false_eq_true, Nat.mul_one, Nat.one_mul, Nat.zero_mul, ↓reduceIte, Nat.reduceEqDiff, Nat.reduceLT, Nat.reduceAdd, Nat.reduceLeDiff, reduceCtorEq, goInt, pairs, isConst, TI.isAgg, splice, boxS, Edp, dpv, Nat.beq_eq, ZV.val, List.any_cons, List.any_nil, Bool.false_and, AS_any]
  intro b hb
  exact ⟨_, _, rfl, hq b (AbsA.dead_of hb)⟩
theorem flat_oc (l : List Pr) : (flat l).all oneCell = true := by
  induction l with
  | nil => rfl
  | cons a l ih => show (propC a ++ flat l).all oneCell = true; rw [List.all_append, ih]; rfl
theorem eq_sl {cs : Bool} {a : Addr} {n c : Nat} : abin E σ .eql 32 cs (.slice (some a) n c) (.slice none 0 0) = some (.bool false) := by
  simp only [abin, nonNum, eqAsk, aeq, ty32]
  cases cs <;> rfl
theorem app_clone {K : Value → AHeap → Prop} {b0 : Nat} {x : Value} {l : List Pr} (g0 : σ.get b0 = .cells [] true 4) (hx : ∀ b, srcCells (σ.resize b) 4 x = some (l.length, flat l)) (hs : l.length ≤ 100000)
    (hq : ∀ σ' d ex, (ex = none ∨ ex = some 1) → σ'.get d = .cells (flat l) true 4 → (d = b0 ∨ σ.get d = .dead) → (∀ b, σ.get b ≠ .dead → σ'.get b = σ.get b) → K (.slice (some ⟨d, 0, ex⟩) l.length l.length) σ') :
    afterOpS E B (some (.any fun b => aappend E (σ.resize b) [32, 32] [.slice (some ⟨b0, 0, some 1⟩) 0 0, x])) σ K := by
  simp (disch := first | assumption | simp) only [↓sbD, sbU, tyB, Nat.reduceMul, Nat.reduceSub, Int.reduceEq, Int.reduceLT, Int.reduceLE, Int.reduceNe, Nat.reduceBneDiff, Nat.reduceBEq, decide_false, gt_iff_lt, Bool.or_self, Bool.false_eq_true, Nat.mul_one, Nat.one_mul, Nat.zero_mul, ↓reduceIte, Nat.reduceEqDiff, Nat.reduceLT, Nat.reduceAdd, Nat.reduceLeDiff, reduceCtorEq, goInt, pairs, isConst, TI.isAgg, splice, boxS, Edp, dpv, Nat.beq_eq, ZV.val, List.any_cons, List.any_nil, Bool.false_and, AS_any]
  intro b hb
  have hbd := AbsA.dead_of hb
  by_cases hl : l.length = 0
  · have hl0 : l = [] := List.eq_nil_of_length_eq_zero hl
    subst hl0
    refine ⟨.slice (some ⟨b0, 0, some 1⟩) 0 0, σ.resize b, ?_, hq _ b0 _ (.inr rfl) (by exact g0) (.inl rfl) (fun _ _ => rfl)⟩
    simp only [aappend, ty32, ty93, zeP, hx, AbsA.get_resize, g0]
    rfl
  · refine ⟨.slice (some ⟨b, 0, none⟩) l.length l.length, (σ.resize b).alloc (.cells (flat l) true 4), ?_, hq _ b _ (.inl rfl) (AHeap.get_alloc_same (σ.resize b) _) (.inr hbd) fun c hc => AHeap.get_alloc_ne _ _ (by intro e; subst e; exact hc hbd)⟩
    have c1 : l.length * 48 ≤ 140737488355328 := by omega
    have c2 : ¬ 0 + l.length ≤ 0 := by omega
    simp only [aappend, ty32, ty93, zeP, hx, AbsA.get_resize, takeCells, g0, c2, flat_oc]
    simp only [Nat.zero_add, c1, decide_true, Bool.and_self, if_true, if_false, Nat.zero_mul, List.length_nil, Nat.le_refl, List.take_nil, List.drop_nil, Option.map_some, List.nil_append]
    have c3 : ¬ l.length ≤ 0 := by omega
    try simp only [c3, hl, flat_oc, Bool.and_self, if_true, if_false]
    rfl
/-- properties in a slice: one that nobody writes, or one that may be written -/
def PS (σ : AHeap) (v : Value) (l : List Pr) : Prop := (l = [] ∧ v = .slice none 0 0) ∨ (∃ m, v = dsl m 4 l.length (flat l)) ∨ ∃ d ex c cs, v = .slice (some ⟨d, 0, ex⟩) l.length c ∧ σ.get d = .cells (flat l ++ cs) true 4
/-- properties in a slice that may be written, and how much room there is -/
def WS (σ : AHeap) (v : Value) (l : List Pr) : Prop := (l = [] ∧ v = .slice none 0 0) ∨ ∃ d ex c cs, v = .slice (some ⟨d, 0, ex⟩) l.length c ∧ σ.get d = .cells (flat l ++ cs) true 4 ∧ l.length ≤ c ∧ (flat l ++ cs).length = c * 4 ∧ (ex = none ∨ ex = some 1)
theorem WS.ps {v : Value} {l : List Pr} (h : WS σ v l) : PS σ v l := by
  rcases h with h | ⟨d, ex, c, cs, h1, h2, _⟩
  · exact .inl h
  · exact .inr (.inr ⟨d, ex, c, cs, h1, h2⟩)
theorem PS.kept {σ' : AHeap} {v : Value} {l : List Pr} (h : PS σ v l) (k : ∀ b, σ.get b ≠ .dead → σ'.get b = σ.get b) : PS σ' v l := by
  rcases h with h | h | ⟨d, ex, c, cs, h1, h2⟩
  · exact .inl h
  · exact .inr (.inl h)
  · exact .inr (.inr ⟨d, ex, c, cs, h1, by rw [k d (by rw [h2]; simp)]; exact h2⟩)
theorem WS.kept {σ' : AHeap} {v : Value} {l : List Pr} (h : WS σ v l) (k : ∀ b, σ.get b ≠ .dead → σ'.get b = σ.get b) : WS σ' v l := by
  rcases h with h | ⟨d, ex, c, cs, h1, h2, h3⟩
  · exact .inl h
  · exact .inr ⟨d, ex, c, cs, h1, by rw [k d (by rw [h2]; simp)]; exact h2, h3⟩
theorem PS.vc {v : Value} {l : List Pr} (h : PS σ v l) : vcells v = [v] ∧ oneCell v = true := by
  rcases h with ⟨_, rfl⟩ | ⟨m, rfl⟩ | ⟨d, ex, c, cs, rfl, _⟩ <;> exact ⟨rfl, rfl⟩
theorem specCloW {v : Value} {l : List Pr} (hv : PS σ v l) (hs : l.length ≤ 100000) (hq : ∀ σ' v', WS σ' v' l → (∀ b, σ.get b ≠ .dead → σ'.get b = σ.get b) → (v' = .slice none 0 0 ∨ ∃ d ex, v' = .slice (some ⟨d, 0, ex⟩) l.length l.length ∧ σ.get d = .dead ∧ σ'.get d = .cells (flat l) true 4 ∧ (ex = none ∨ ex = some 1)) → Q v' σ') :
    CallS E B 42 [v] σ Q := by
  rcases hv with ⟨rfl, rfl⟩ | hv
  · refine call42 (by simp) ?_
    simp only [strip, bodyOf, Try.f42, getD_body, keepN, bareOp_mk, lessOp_mk, lapp_cons, lapp_nil, List.map_cons, List.map_nil, array_toList, ↓reduceIte, Nat.reduceEqDiff, Bool.false_eq_true]
    simp (disch := first | assumption | simp) only [↓sbD, sbU, tyB, Nat.reduceMul, Nat.reduceSub, Int.reduceEq, Int.reduceLT, Int.reduceLE, Int.reduceNe, Nat.reduceBneDiff, Nat.reduceBEq, decide_false, gt_iff_lt, Bool.or_self, Bool.false_eq_true, Nat.mul_one, Nat.one_mul, Nat.zero_mul, ↓reduceIte, Nat.reduceEqDiff, Nat.reduceLT, Nat.reduceAdd, Nat.reduceLeDiff, reduceCtorEq, goInt, pairs, isConst, TI.isAgg, splice, boxS, Edp, dpv, Nat.beq_eq, ZV.val, List.any_cons, List.any_nil, Bool.false_and, eq_nil]
    exact downS_here (hq _ _ (.inl ⟨rfl, rfl⟩) (fun _ _ => rfl) (.inl rfl))
  have FI : ∀ {τ : AHeap} {b0 : Nat}, σ.get b0 = .dead → τ = σ.set b0 (.cells [] true 4) → (∀ b, srcCells (τ.resize b) 4 v = some (l.length, flat l)) → ∀ {K : Value → AHeap → Prop}, (∀ σ' v', WS σ' v' l → (∀ b, σ.get b ≠ .dead → σ'.get b = σ.get b) → (v' = .slice none 0 0 ∨ ∃ d ex, v' = .slice (some ⟨d, 0, ex⟩) l.length l.length ∧ σ.get d = .dead ∧ σ'.get d = .cells (flat l) true 4 ∧ (ex = none ∨ ex = some 1)) → K v' σ') →
      afterOpS E B (some (.any fun b => aappend E (τ.resize b) [32, 32] [.slice (some ⟨b0, 0, some 1⟩) 0 0, v])) τ K := by
    intro τ b0 hb hτ hx K hK
    subst hτ
    refine app_clone (AHeap.get_set_same _ _ _) hx hs fun σ' d ex hex h1 h2 h3 => ?_
    have hd : σ.get d = .dead := by
      rcases h2 with rfl | h2
      · exact hb
      · by_cases e : b0 = d
        · subst e; exact hb
        · rw [AHeap.get_set_ne _ _ e] at h2; exact h2
    refine hK σ' _ (.inr ⟨d, ex, _, [], rfl, by rw [List.append_nil]; exact h1, Nat.le_refl _, by rw [List.append_nil, flat_len], hex⟩) (fun c hc => ?_) (.inr ⟨d, ex, rfl, hd, h1, hex⟩)
    have hbc : b0 ≠ c := by rintro rfl; exact hc hb
    rw [h3 c (by rw [AHeap.get_set_ne _ _ hbc]; exact hc), AHeap.get_set_ne _ _ hbc]
  rcases hv with ⟨m, rfl⟩ | ⟨d0, ex0, c0, cs0, rfl, g0⟩
  · refine call42 (by simp) ?_
    simp only [strip, bodyOf, Try.f42, getD_body, keepN, bareOp_mk, lessOp_mk, lapp_cons, lapp_nil, List.map_cons, List.map_nil, array_toList, ↓reduceIte, Nat.reduceEqDiff, Bool.false_eq_true]
    simp (disch := first | assumption | simp) only [↓sbD, sbU, tyB, Nat.reduceMul, Nat.reduceSub, Int.reduceEq, Int.reduceLT, Int.reduceLE, Int.reduceNe, Nat.reduceBneDiff, Nat.reduceBEq, decide_false, gt_iff_lt, Bool.or_self, Bool.false_eq_true, Nat.mul_one, Nat.one_mul, Nat.zero_mul, ↓reduceIte, Nat.reduceEqDiff, Nat.reduceLT, Nat.reduceAdd, Nat.reduceLeDiff, reduceCtorEq, goInt, pairs, isConst, TI.isAgg, splice, boxS, Edp, dpv, Nat.beq_eq, ZV.val, List.any_cons, List.any_nil, Bool.false_and, eq_dsl]
    refine bs_zero fun b hb => ?_
    try simp (disch := first | assumption | simp) only [↓sbD, sbU, tyB, Nat.reduceMul, Nat.reduceSub, Int.reduceEq, Int.reduceLT, Int.reduceLE, Int.reduceNe, Nat.reduceBneDiff, Nat.reduceBEq, decide_false, gt_iff_lt, Bool.or_self, Bool.false_eq_true, Nat.mul_one, Nat.one_mul, Nat.zero_mul, ↓reduceIte, Nat.reduceEqDiff, Nat.reduceLT, Nat.reduceAdd, Nat.reduceLeDiff, reduceCtorEq, goInt, pairs, isConst, TI.isAgg, splice, boxS, Edp, dpv, Nat.beq_eq, ZV.val, List.any_cons, List.any_nil, Bool.false_and]
    refine FI hb rfl (fun b => by simp only [dsl, srcCells, if_true]) fun σ' v' h1 h2 h3 => ?_
    try simp (disch := first | assumption | simp) only [↓sbD, sbU, tyB, Nat.reduceMul, Nat.reduceSub, Int.reduceEq, Int.reduceLT, Int.reduceLE, Int.reduceNe, Nat.reduceBneDiff, Nat.reduceBEq, decide_false, gt_iff_lt, Bool.or_self, Bool.false_eq_true, Nat.mul_one, Nat.one_mul, Nat.zero_mul, ↓reduceIte, Nat.reduceEqDiff, Nat.reduceLT, Nat.reduceAdd, Nat.reduceLeDiff, reduceCtorEq, goInt, pairs, isConst, TI.isAgg, splice, boxS, Edp, dpv, Nat.beq_eq, ZV.val, List.any_cons, List.any_nil, Bool.false_and]
    exact downS_here (hq σ' v' h1 h2 h3)
  · refine call42 (by simp) ?_
    simp only [strip, bodyOf, Try.f42, getD_body, keepN, bareOp_mk, lessOp_mk, lapp_cons, lapp_nil, List.map_cons, List.map_nil, array_toList, ↓reduceIte, Nat.reduceEqDiff, Bool.false_eq_true]
    simp (disch := first | assumption | simp) only [↓sbD, sbU, tyB, Nat.reduceMul, Nat.reduceSub, Int.reduceEq, Int.reduceLT, Int.reduceLE, Int.reduceNe, Nat.reduceBneDiff, Nat.reduceBEq, decide_false, gt_iff_lt, Bool.or_self, Bool.false_eq_true, Nat.mul_one, Nat.one_mul, Nat.zero_mul, ↓reduceIte, Nat.reduceEqDiff, Nat.reduceLT, Nat.reduceAdd, Nat.reduceLeDiff, reduceCtorEq, goInt, pairs, isConst, TI.isAgg, splice, boxS, Edp, dpv, Nat.beq_eq, ZV.val, List.any_cons, List.any_nil, Bool.false_and, eq_sl]
    refine bs_zero fun b hb => ?_
    try simp (disch := first | assumption | simp) only [↓sbD, sbU, tyB, Nat.reduceMul, Nat.reduceSub, Int.reduceEq, Int.reduceLT, Int.reduceLE, Int.reduceNe, Nat.reduceBneDiff, Nat.reduceBEq, decide_false, gt_iff_lt, Bool.or_self, Bool.false_eq_true, Nat.mul_one, Nat.one_mul, Nat.zero_mul, ↓reduceIte, Nat.reduceEqDiff, Nat.reduceLT, Nat.reduceAdd, Nat.reduceLeDiff, reduceCtorEq, goInt, pairs, isConst, TI.isAgg, splice, boxS, Edp, dpv, Nat.beq_eq, ZV.val, List.any_cons, List.any_nil, Bool.false_and]
    have hbd : b ≠ d0 := by rintro rfl; rw [g0] at hb; cases hb
    refine FI hb rfl (fun b' => ?_) fun σ' v' h1 h2 h3 => ?_
    · have g1 : (σ.set b (.cells [] true 4)).get d0 = .cells (flat l ++ cs0) true 4 := by rw [AHeap.get_set_ne _ _ hbd]; exact g0
      have hle : 0 + l.length * 4 ≤ (flat l ++ cs0).length := by rw [List.length_append, flat_len]; omega
      simp only [srcCells, takeCells, AbsA.get_resize, g1]
      rw [if_pos hle]
      simp only [List.drop_zero, Option.map_some]
      rw [List.take_append_of_le_length (by rw [flat_len]; omega), List.take_of_length_le (by rw [flat_len]; omega)]
    try simp (disch := first | assumption | simp) only [↓sbD, sbU, tyB, Nat.reduceMul, Nat.reduceSub, Int.reduceEq, Int.reduceLT, Int.reduceLE, Int.reduceNe, Nat.reduceBneDiff, Nat.reduceBEq, decide_false, gt_iff_lt, Bool.or_self, Bool.false_eq_true, Nat.mul_one, Nat.one_mul, Nat.zero_mul, ↓reduceIte, Nat.reduceEqDiff, Nat.reduceLT, Nat.reduceAdd, Nat.reduceLeDiff, reduceCtorEq, goInt, pairs, isConst, TI.isAgg, splice, boxS, Edp, dpv, Nat.beq_eq, ZV.val, List.any_cons, List.any_nil, Bool.false_and]
    exact downS_here (hq σ' v' h1 h2 h3)
theorem arr_map {α β : Type} (f : α → β) (l : List α) : Array.map f ⟨l⟩ = ⟨l.map f⟩ := by simp
end
end Go.Proofs.Ytkhcbbpfchgemaa.AbsS
namespace Go.Proofs.Ytkhcbbpfchgemaa.AbsS
open Go AbsYtkhcbbpfchgemaa Abs
open AbsA (Pr propC Kept drawS_l lastP_cc lastP_one)
set_option maxRecDepth 100000
set_option maxHeartbeats 4000000
set_option linter.unusedSimpArgs false
set_option linter.unusedVariables false
attribute [local irreducible] afterS afterOpS opSK OpsS TrS CodeS condS condW thenS thenQ guardS guardTS outS drawS trSK consS
section
variable {σ : AHeap} {Q : Value → AHeap → Prop}
/-- a message -/
def msgC (t p : ByteArray) (q : Int) (r : Bool) (v : Value) (f : ByteArray) (u n : Int) (g : ByteArray) : List Value := [.string t, .string p, .int .i64 q, .bool r, v, .string f, .int .i64 u, .int .i64 n, .string g]
theorem zeMsg : azero E 37 = some [.string ⟨#[]⟩, .string ⟨#[]⟩, .int .i64 0, .bool false, .slice none 0 0, .string ⟨#[]⟩, .int .i64 0, .int .i64 0, .string ⟨#[]⟩] := rfl
theorem dpM : dp 37 = false := rfl
theorem specCome {t p f g : ByteArray} {q u n now : Int} {r : Bool} {v : Value} (hv : vcells v = [v] ∧ oneCell v = true) (hq : ∀ σ' b, (∀ c, σ.get c ≠ .dead → σ'.get c = σ.get c) → Q (.bool b) σ') : CallS E B 50 [.agg ⟨msgC t p q r v f u n g⟩, .int .i64 now] σ Q := by
  simp only [msgC]
  refine call50 (by simp) ?_
  simp only [strip, bodyOf, Try.f50, getD_body, keepN, bareOp_mk, lessOp_mk, lapp_cons, lapp_nil, List.map_cons, List.map_nil, array_toList, ↓reduceIte, Nat.reduceEqDiff, Bool.false_eq_true]
  simp (disch := first | assumption | simp) only [↓sbD, sbU, tyB, Nat.reduceMul, Nat.reduceSub, Int.reduceEq, Int.reduceLT, Int.reduceLE, Int.reduceNe, Nat.reduceBneDiff, Nat.reduceBEq, decide_false, gt_iff_lt, Bool.or_self, Bool.false_eq_true, Nat.mul_one, Nat.one_mul, Nat.zero_mul, ↓reduceIte, Nat.reduceEqDiff, Nat.reduceLT, Nat.reduceAdd, Nat.reduceLeDiff, reduceCtorEq, goInt, pairs, isConst, TI.isAgg, splice, boxS, Edp, dpv, Nat.beq_eq, ZV.val, List.any_cons, List.any_nil, Bool.false_and, AS_new, dpM, hv.1, hv.2]
  intro b hb
  have hk : ∀ (o : AObj) c, σ.get c ≠ .dead → (AHeap.set σ b o).get c = σ.get c := fun o c hc => AHeap.get_set_ne _ _ (by rintro rfl; exact hc hb)
  by_cases h1 : 0 < u
  · by_cases h2 : u ≤ now
    · simp (disch := first | assumption | simp) only [↓sbD, sbU, tyB, Nat.reduceMul, Nat.reduceSub, Int.reduceEq, Int.reduceLT, Int.reduceLE, Int.reduceNe, Nat.reduceBneDiff, Nat.reduceBEq, decide_false, gt_iff_lt, Bool.or_self, Bool.false_eq_true, Nat.mul_one, Nat.one_mul, Nat.zero_mul, ↓reduceIte, Nat.reduceEqDiff, Nat.reduceLT, Nat.reduceAdd, Nat.reduceLeDiff, reduceCtorEq, goInt, pairs, isConst, TI.isAgg, splice, boxS, Edp, dpv, Nat.beq_eq, ZV.val, List.any_cons, List.any_nil, Bool.false_and, AHeap.get_set_same, h1, h2]
      exact downS_here (hq _ _ (hk _))
    · simp (disch := first | assumption | simp) only [↓sbD, sbU, tyB, Nat.reduceMul, Nat.reduceSub, Int.reduceEq, Int.reduceLT, Int.reduceLE, Int.reduceNe, Nat.reduceBneDiff, Nat.reduceBEq, decide_false, gt_iff_lt, Bool.or_self, Bool.false_eq_true, Nat.mul_one, Nat.one_mul, Nat.zero_mul, ↓reduceIte, Nat.reduceEqDiff, Nat.reduceLT, Nat.reduceAdd, Nat.reduceLeDiff, reduceCtorEq, goInt, pairs, isConst, TI.isAgg, splice, boxS, Edp, dpv, Nat.beq_eq, ZV.val, List.any_cons, List.any_nil, Bool.false_and, AHeap.get_set_same, h1, h2]
      exact downS_here (hq _ _ (hk _))
  · simp (disch := first | assumption | simp) only [↓sbD, sbU, tyB, Nat.reduceMul, Nat.reduceSub, Int.reduceEq, Int.reduceLT, Int.reduceLE, Int.reduceNe, Nat.reduceBneDiff, Nat.reduceBEq, decide_false, gt_iff_lt, Bool.or_self, Bool.false_eq_true, Nat.mul_one, Nat.one_mul, Nat.zero_mul, ↓reduceIte, Nat.reduceEqDiff, Nat.reduceLT, Nat.reduceAdd, Nat.reduceLeDiff, reduceCtorEq, goInt, pairs, isConst, TI.isAgg, splice, boxS, Edp, dpv, Nat.beq_eq, ZV.val, List.any_cons, List.any_nil, Bool.false_and, AHeap.get_set_same, h1]
    exact downS_here (hq _ _ (hk _))
end
end Go.Proofs.Ytkhcbbpfchgemaa.AbsS
namespace Go.Proofs.Ytkhcbbpfchgemaa.AbsA
open Go AbsYtkhcbbpfchgemaa Abs
open AbsS (msgC)
set_option maxRecDepth 100000
set_option maxHeartbeats 4000000
set_option linter.unusedSimpArgs false
set_option linter.unusedVariables false
def DL {α : Type} (enc : α → List Value) (sz : Nat) (v : Value) (l : List α) : Prop := (l = [] ∧ v = .slice none 0 0) ∨ ∃ m, v = dsl m sz l.length (l.flatMap enc)
theorem typed_int {H : AHeap} {d : Nat} {xs : List Value} (h : Typed E H d 3 xs) : ∃ n, xs = [.int .i64 n] ∧ (Lit.int .i64 n).wf = true := by
  cases d with
  | zero => exact h.elim
  | succ d => simpa only [Typed, ty3] using h
theorem typed_str {H : AHeap} {d : Nat} {xs : List Value} (h : Typed E H d 9 xs) : ∃ s : ByteArray, xs = [.string s] ∧ s.size ≤ maxLen := by
  cases d with
  | zero => exact h.elim
  | succ d => simpa only [Typed, ty9] using h
theorem typed_pr {H : AHeap} {d : Nat} {xs : List Value} (h : Typed E H d 93 xs) : ∃ a : Pr, xs = propC a := by
  cases d with
  | zero => exact h.elim
  | succ d =>
    simp only [Typed, ty93] at h
    obtain ⟨hl, hp⟩ := h
    match xs, hl with
    | [x, y, z, w], _ =>
      obtain ⟨j, j1, j2⟩ := hp (0, 3, false) (by simp)
      rw [ty3] at j1; injection j1 with j1; subst j1
      obtain ⟨n1, e1, _⟩ := typed_int (by simpa using j2)
      obtain ⟨j, j1, j2⟩ := hp (1, 3, false) (by simp)
      rw [ty3] at j1; injection j1 with j1; subst j1
      obtain ⟨n2, e2, _⟩ := typed_int (by simpa using j2)
      obtain ⟨j, j1, j2⟩ := hp (2, 9, false) (by simp)
      rw [ty9] at j1; injection j1 with j1; subst j1
      obtain ⟨s, e3, _⟩ := typed_str (by simpa using j2)
      obtain ⟨j, j1, j2⟩ := hp (3, 9, false) (by simp)
      rw [ty9] at j1; injection j1 with j1; subst j1
      obtain ⟨t, e4, _⟩ := typed_str (by simpa using j2)
      simp only [List.cons.injEq, and_true] at e1 e2 e3 e4
      exact ⟨⟨n1, n2, s, t⟩, by rw [e1, e2, e3, e4]; rfl⟩
structure Sb where
  f : ByteArray
  q : Int
  nl : Bool
  ai : Bool
  rt : Int
structure Wl where
  has : Bool
  topic : ByteArray
  pay : ByteArray
  qos : Int
  ret : Bool
  props : List Pr
structure Pk where
  kind : Int
  id : Int
  rea : Int
  props : List Pr
  clean : Bool
  keep : Int
  client : ByteArray
  will : Wl
  hasU : Bool
  user : ByteArray
  hasP : Bool
  pass : ByteArray
  present : Bool
  topic : ByteArray
  pay : ByteArray
  qos : Int
  ret : Bool
  dup : Bool
  subs : List Sb
  filts : List ByteArray
  codes : List Int
def wlC (w : Wl) (vw : Value) : List Value := [.bool w.has, .string w.topic, .string w.pay, .int .i64 w.qos, .bool w.ret, vw]
def pkC (p : Pk) (vp vw vs vf vc : Value) : List Value := [.int .i64 p.kind, .int .i64 p.id, .int .i64 p.rea, vp, .bool p.clean, .int .i64 p.keep, .string p.client, .bool p.will.has, .string p.will.topic, .string p.will.pay, .int .i64 p.will.qos, .bool p.will.ret, vw, .bool p.hasU, .string p.user, .bool p.hasP, .string p.pass, .bool p.present, .string p.topic, .string p.pay, .int .i64 p.qos, .bool p.ret, .bool p.dup, vs, vf, vc]
theorem typed_b {H : AHeap} {d : Nat} {xs : List Value} (h : Typed E H d 4 xs) : ∃ b, xs = [.bool b] := by
  cases d with
  | zero => exact h.elim
  | succ d => simpa only [Typed, ty4] using h
theorem typedL_pr {H : AHeap} {d : Nat} {xs : List Value} (h : Typed E H d 32 xs) : ∃ v l, xs = [v] ∧ DL propC 4 v (l : List Pr) ∧ frz E.ng E.nb v = true := by
  cases d with
  | zero => exact h.elim
  | succ d =>
    simp only [Typed, ty32] at h
    rcases h with rfl | ⟨h2, _⟩ | ⟨_, n, j, cs, hj, rfl, hl, hk⟩
    · exact ⟨_, [], rfl, .inl ⟨rfl, rfl⟩, frz_nils⟩
    · cases h2
    · rw [ty93] at hj; injection hj with hj; subst hj
      obtain ⟨l, h3, h4⟩ := chunks (enc := propC) (fun a => rfl) n cs hl fun k hk' => typed_pr (hk k hk')
      exact ⟨_, l, rfl, .inr ⟨0, by rw [h3, ← h4]⟩, by rw [frz_dsl]; rfl⟩
theorem propC_len (a : Pr) : (propC a).length = 4 := rfl
theorem DLp.len {v : Value} {l : List Pr} (h : DL propC 4 v l) (σ : AHeap) : abuiltin E σ .len [32] [v] = some (.int .i64 (l.length : Int), σ) := by
  rcases h with ⟨rfl, rfl⟩ | ⟨m, rfl⟩ <;> rfl
theorem DLp.at {v : Value} {l : List Pr} (h : DL propC 4 v l) {i : Nat} (hi : i < l.length) : aindexAddr E 32 v (.int .i64 (i : Int)) = some (dptr (propC l[i] ++ (l.drop (i + 1)).flatMap propC)) := by
  rcases h with ⟨rfl, rfl⟩ | ⟨m, rfl⟩
  · simp at hi
  · rw [ia_dsl hi, drop_flat propC_len hi]; rfl
structure Tm where
  e : Int
  r : Int
  p : Int
  a : Int
  k : Int
  b : Bool
def tmC (t : Tm) : List Value := [.int .i64 t.e, .int .i64 t.r, .int .i64 t.p, .int .i64 t.a, .int .i64 t.k, .bool t.b]
theorem typed_msg {H : AHeap} {d : Nat} {xs : List Value} (h : Typed E H d 37 xs) : ∃ (t p f g : ByteArray) (q u n : Int) (r : Bool) (v : Value) (l : List Pr), DL propC 4 v l ∧ xs = msgC t p q r v f u n g := by
  cases d with
  | zero => exact h.elim
  | succ d =>
    simp only [Typed, ty37] at h
    obtain ⟨hl, hp⟩ := h
    match xs, hl with
    | [x0, x1, x2, x3, x4, x5, x6, x7, x8], _ =>
      obtain ⟨j, j1, j2⟩ := hp (0, 9, false) (by simp)
      rw [ty9] at j1; injection j1 with j1; subst j1
      obtain ⟨a0, ea0, _⟩ := typed_str (by simpa using j2)
      obtain ⟨j, j1, j2⟩ := hp (1, 9, false) (by simp)
      rw [ty9] at j1; injection j1 with j1; subst j1
      obtain ⟨a1, ea1, _⟩ := typed_str (by simpa using j2)
      obtain ⟨j, j1, j2⟩ := hp (2, 3, false) (by simp)
      rw [ty3] at j1; injection j1 with j1; subst j1
      obtain ⟨a2, ea2, _⟩ := typed_int (by simpa using j2)
      obtain ⟨j, j1, j2⟩ := hp (3, 4, false) (by simp)
      rw [ty4] at j1; injection j1 with j1; subst j1
      obtain ⟨a3, ea3⟩ := typed_b (by simpa using j2)
      obtain ⟨j, j1, j2⟩ := hp (4, 32, false) (by simp)
      rw [ty32] at j1; injection j1 with j1; subst j1
      obtain ⟨va4, a4, ea4, da4, _⟩ := typedL_pr (by simpa using j2)
      obtain ⟨j, j1, j2⟩ := hp (5, 9, false) (by simp)
      rw [ty9] at j1; injection j1 with j1; subst j1
      obtain ⟨a5, ea5, _⟩ := typed_str (by simpa using j2)
      obtain ⟨j, j1, j2⟩ := hp (6, 3, false) (by simp)
      rw [ty3] at j1; injection j1 with j1; subst j1
      obtain ⟨a6, ea6, _⟩ := typed_int (by simpa using j2)
      obtain ⟨j, j1, j2⟩ := hp (7, 3, false) (by simp)
      rw [ty3] at j1; injection j1 with j1; subst j1
      obtain ⟨a7, ea7, _⟩ := typed_int (by simpa using j2)
      obtain ⟨j, j1, j2⟩ := hp (8, 9, false) (by simp)
      rw [ty9] at j1; injection j1 with j1; subst j1
      obtain ⟨a8, ea8, _⟩ := typed_str (by simpa using j2)
      simp only [List.cons.injEq, and_true] at ea0 ea1 ea2 ea3 ea4 ea5 ea6 ea7 ea8
      exact ⟨a0, a1, a5, a8, a2, a6, a7, a3, va4, a4, da4, by rw [ea0, ea1, ea2, ea3, ea4, ea5, ea6, ea7, ea8]; rfl⟩
theorem dl_vc {α : Type} {enc : α → List Value} {sz : Nat} {v : Value} {l : List α} (h : DL enc sz v l) : vcells v = [v] ∧ oneCell v = true := by
  rcases h with ⟨_, rfl⟩ | ⟨m, rfl⟩ <;> exact ⟨rfl, rfl⟩
end Go.Proofs.Ytkhcbbpfchgemaa.AbsA
namespace Go.Proofs.Ytkhcbbpfchgemaa.AbsA
open Go AbsYtkhcbbpfchgemaa Abs
set_option maxRecDepth 100000
set_option maxHeartbeats 4000000
set_option linter.unusedSimpArgs false
set_option linter.unusedVariables false
/-! slices that may be written, with places: generic -/
section
variable {E : Env} {B : AHeap} {α : Type} {enc : α → List Value} {sz : Nat}
theorem fm_len (hsz : ∀ a, (enc a).length = sz) : ∀ l : List α, (l.flatMap enc).length = l.length * sz
  | [] => by simp
  | a :: l => by rw [List.flatMap_cons, List.length_append, hsz, fm_len hsz l, List.length_cons, Nat.succ_mul]; omega
theorem fm_drop (hsz : ∀ a, (enc a).length = sz) : ∀ (l : List α) (i : Nat), i ≤ l.length → (l.flatMap enc).drop (i * sz) = (l.drop i).flatMap enc
  | l, 0, _ => by simp
  | [], i + 1, h => by simp at h
  | a :: l, i + 1, h => by
    rw [List.flatMap_cons, List.drop_succ_cons, ← fm_drop hsz l i (by simpa using h), Nat.succ_mul, Nat.add_comm, ← List.drop_drop, List.drop_left' (hsz a)]
theorem fm_take (hsz : ∀ a, (enc a).length = sz) : ∀ (l : List α) (i : Nat), i ≤ l.length → (l.flatMap enc).take (i * sz) = (l.take i).flatMap enc
  | l, 0, _ => by simp
  | [], i + 1, h => by simp at h
  | a :: l, i + 1, h => by
    rw [List.take_succ_cons, List.flatMap_cons, List.flatMap_cons, ← fm_take hsz l i (by simpa using h), Nat.succ_mul, Nat.add_comm, ← hsz a]
    exact List.take_length_add_append ..
theorem fm_at (hsz : ∀ a, (enc a).length = sz) {l : List α} {i : Nat} (hi : i < l.length) {pre cs : List Value} : ((pre ++ (l.flatMap enc ++ cs)).drop (pre.length + i * sz)).take sz = enc l[i] := by
  rw [← List.drop_drop, List.drop_left' rfl, List.drop_append_of_le_length (by rw [fm_len hsz]; exact Nat.mul_le_mul_right _ (by omega)), fm_drop hsz l i (by omega), List.drop_eq_getElem_cons hi, List.flatMap_cons, List.append_assoc]
  exact List.take_left' (hsz _)
theorem fm_le (hsz : ∀ a, (enc a).length = sz) {l : List α} {i : Nat} (hi : i < l.length) {pre cs : List Value} : pre.length + i * sz + sz ≤ (pre ++ (l.flatMap enc ++ cs)).length := by
  have : (i + 1) * sz ≤ l.length * sz := Nat.mul_le_mul_right _ hi
  rw [List.length_append, List.length_append, fm_len hsz]
  rw [Nat.succ_mul] at this
  omega
/-- a slice that may be written -/
def GS (enc : α → List Value) (sz : Nat) (σ : AHeap) (v : Value) (l : List α) (fp : List Nat) : Prop :=
  (l = [] ∧ v = .slice none 0 0 ∧ fp = []) ∨ ∃ (d : Nat) (ex : Option Nat) (c : Nat) (pre cs : List Value), v = .slice (some ⟨d, pre.length, ex⟩) l.length c ∧ σ.get d = .cells (pre ++ (l.flatMap enc ++ cs)) true sz ∧ l.length ≤ c ∧ (l.flatMap enc ++ cs).length = c * sz ∧ (ex = none ∨ ex = some 1) ∧ fp = [d]
variable {σ : AHeap} {v : Value} {l : List α} {fp : List Nat}
theorem GS.kept {σ' : AHeap} {gp gp' : List Nat} (h : GS enc sz σ v l fp) (k : Kept σ gp σ' gp') (hd : ∀ b ∈ fp, b ∉ gp) : GS enc sz σ' v l fp := by
  rcases h with h | ⟨d, ex, c, pre, cs, h1, h2, h3, h4, h5, rfl⟩
  · exact .inl h
  · exact .inr ⟨d, ex, c, pre, cs, h1, (k.at h2 (by simp) (hd d (by simp))).1, h3, h4, h5, rfl⟩
theorem GS.set {b : Nat} {o : AObj} (h : GS enc sz σ v l fp) (hd : b ∉ fp) : GS enc sz (σ.set b o) v l fp := by
  rcases h with h | ⟨d, ex, c, pre, cs, h1, h2, h3, h4, h5, rfl⟩
  · exact .inl h
  · exact .inr ⟨d, ex, c, pre, cs, h1, by rw [AHeap.get_set_ne _ _ (by intro e; exact hd (by simp [e]))]; exact h2, h3, h4, h5, rfl⟩
theorem GS.live (h : GS enc sz σ v l fp) : ∀ b ∈ fp, ∃ cs, σ.get b = .cells cs true sz := by
  rcases h with ⟨_, _, rfl⟩ | ⟨d, ex, c, pre, cs, h1, h2, h3, h4, h5, rfl⟩ <;> intro b hb
  · cases hb
  · obtain rfl := List.mem_singleton.1 hb; exact ⟨_, h2⟩
theorem GS.off (h : GS enc sz σ v l fp) {b : Nat} {xs : List Value} {w : Bool} {z : Nat} (hg : σ.get b = .cells xs w z) (hz : z ≠ sz) : b ∉ fp := fun hb => by
  obtain ⟨cs, h1⟩ := h.live b hb
  rw [hg] at h1; injection h1 with _ _ h2; exact hz h2
theorem GS.offm (h : GS enc sz σ v l fp) {b : Nat} {es : List MapEntry} {k : Nat} (hg : σ.get b = .map es k) : b ∉ fp := fun hb => by
  obtain ⟨cs, h1⟩ := h.live b hb
  rw [hg] at h1; cases h1
theorem GS.vc (h : GS enc sz σ v l fp) : vcells v = [v] ∧ oneCell v = true := by
  rcases h with ⟨_, rfl, _⟩ | ⟨d, ex, c, pre, cs, rfl, _⟩ <;> exact ⟨rfl, rfl⟩
theorem GS.nil : GS enc sz σ (.slice none 0 0) ([] : List α) [] := .inl ⟨rfl, rfl, rfl⟩
theorem GS.len (h : GS enc sz σ v l fp) {τ : AHeap} {t e : Nat} {a1 a2 : Nat} {z : Option (List ZV)} {q : Bool} (ht : E.ty.get t = some ⟨.slice e, a1, a2, z, q⟩) : abuiltin E τ .len [t] [v] = some (.int .i64 (l.length : Int), τ) := by
  rcases h with ⟨rfl, rfl, _⟩ | ⟨d, ex, c, pre, cs, rfl, _⟩ <;> simp only [abuiltin, ht, goInt]
  rfl
/-- where an element stands -/
theorem GS.at (h : GS enc sz σ v l fp) (hsz : ∀ a, (enc a).length = sz) {i : Nat} (hi : i < l.length) {t e a1 a2 b2 : Nat} {z z2 : Option (List ZV)} {q q2 : Bool} {k2 : TK} (ht : E.ty.get t = some ⟨.slice e, a1, a2, z, q⟩) (he : E.ty.get e = some ⟨k2, sz, b2, z2, q2⟩) :
    ∃ d o xs, aindexAddr E t v (.int .i64 (i : Int)) = some (.pointer (some ⟨d, o, none⟩)) ∧ σ.get d = .cells xs true sz ∧ o + sz ≤ xs.length ∧ (xs.drop o).take sz = enc l[i] ∧ fp = [d] ∧ (∀ y, GS enc sz (σ.set d (.cells (xs.take o ++ enc y ++ xs.drop (o + sz)) true sz)) v (l.set i y) fp) := by
  rcases h with ⟨rfl, rfl, _⟩ | ⟨d, ex, c, pre, cs, rfl, h2, h3, h4, h5, rfl⟩
  · simp at hi
  · refine ⟨d, pre.length + i * sz, _, ?_, h2, fm_le hsz hi, fm_at hsz hi, rfl, fun y => .inr ⟨d, ex, c, pre, cs, by rw [List.length_set], ?_, by rw [List.length_set]; exact h3, ?_, h5, rfl⟩⟩
    · simp only [aindexAddr, ht, he]
      rw [if_pos ⟨by omega, by omega⟩]
      simp
    · rw [AHeap.get_set_same]
      have e1 : (pre ++ (l.flatMap enc ++ cs)).take (pre.length + i * sz) = pre ++ (l.take i).flatMap enc := by
        rw [List.take_length_add_append, List.take_append_of_le_length (by rw [fm_len hsz]; exact Nat.mul_le_mul_right _ (by omega)), fm_take hsz l i (by omega)]
      have e2 : (pre ++ (l.flatMap enc ++ cs)).drop (pre.length + i * sz + sz) = (l.drop (i + 1)).flatMap enc ++ cs := by
        rw [Nat.add_assoc, ← Nat.succ_mul, ← List.drop_drop, List.drop_left' rfl, List.drop_append_of_le_length (by rw [fm_len hsz]; exact Nat.mul_le_mul_right _ hi), fm_drop hsz l (i + 1) hi]
      rw [e1, e2, List.set_eq_take_append_cons_drop, if_pos hi, List.flatMap_append, List.flatMap_cons]
      simp only [List.append_assoc]
    · rw [List.length_append, fm_len hsz, List.length_set, ← fm_len hsz, ← List.length_append]; exact h4
theorem fm_oc (ho : ∀ a, (enc a).all oneCell = true) (l : List α) : (l.flatMap enc).all oneCell = true := by
  rw [List.all_flatMap, List.all_eq_true]
  intro a _
  exact ho a
theorem dead_any {b : Nat} (hb0 : ∀ c, σ.get c ≠ .dead → c < b) : σ.get b = .dead := by
  rcases hg : σ.get b with _ | _ | _
  · rfl
  · exact absurd (hb0 b (by rw [hg]; simp)) (Nat.lt_irrefl _)
  · exact absurd (hb0 b (by rw [hg]; simp)) (Nat.lt_irrefl _)
/-- what stands in a slice, to be copied -/
theorem GS.src (h : GS enc sz σ v l fp) (hsz : ∀ a, (enc a).length = sz) : srcCells σ sz v = some (l.length, l.flatMap enc) := by
  rcases h with ⟨rfl, rfl, _⟩ | ⟨d, ex, c, pre, cs, rfl, h2, h3, h4, h5, rfl⟩
  · rfl
  · have hle : pre.length + l.length * sz ≤ (pre ++ (l.flatMap enc ++ cs)).length := by rw [List.length_append, List.length_append, fm_len hsz]; omega
    simp only [srcCells, takeCells, h2]
    rw [if_pos hle, List.drop_left' rfl]
    simp only [Option.map_some]
    rw [List.take_left' (fm_len hsz l)]
/-- more behind a slice -/
theorem GS.app {K : Value → AHeap → Prop} {x : Value} {xs : List α} {t e u by_ a1 a2 : Nat} {z1 : Option (List ZV)} {q1 q2 : Bool} {k2 : TK} {zs : List ZV} {iu : TI}
    (hv : GS enc sz σ v l fp)
    (ht : E.ty.get t = some ⟨.slice e, a1, a2, z1, q1⟩) (he : E.ty.get e = some ⟨k2, sz, by_, some zs, q2⟩) (hz : zs.length = sz) (hs0 : 0 < sz) (hby : 0 < by_) (hu : E.ty.get u = some iu) (hki : iu.k.isInt = false) (hdp : E.dp t = false)
    (hsz : ∀ a, (enc a).length = sz) (ho : ∀ a, (enc a).all oneCell = true)
    (hx : srcCells σ sz x = some (xs.length, xs.flatMap enc)) (hn : (l.length + xs.length) * by_ ≤ 140737488355328) (hone : xs.length = 1 ∨ ∃ d n c, v = .slice (some ⟨d, 0, some 1⟩) n c) (hq : ∀ σ' v' fp', Kept σ fp σ' fp' → GS enc sz σ' v' (l ++ xs) fp' → K v' σ') :
    afterOpS E B (some (.any fun b => aappend E (σ.resize b) [t, u] [v, x])) σ K := by
  intro b hb0
  have hbd := dead_any hb0
  have hz5 : azero E e = some (zs.map ZV.val) := by unfold azero; rw [he]; rfl
  have hsrc : srcCells (σ.resize b) sz x = some (xs.length, xs.flatMap enc) := hx
  have hoc := fm_oc ho xs
  have c0 : (decide (sz = 0) || decide (by_ = 0) || (zs.map ZV.val).length != sz || iu.k.isInt) = false := by
    rw [List.length_map, hz, hki]
    have h1 : decide (sz = 0) = false := by simp; omega
    have h2 : decide (by_ = 0) = false := by simp; omega
    rw [h1, h2]; simp
  have hnew : ∀ (τ : AHeap) (old : List Value), τ.size = b → old = (l ++ xs).flatMap enc → (∀ c, c ∉ fp → τ.get c = σ.get c) → Kept σ fp ((τ.alloc (.cells old true sz)).resize σ.size) [b] ∧ GS enc sz ((τ.alloc (.cells old true sz)).resize σ.size) (.slice (some ⟨b, 0, none⟩) (l.length + xs.length) (l.length + xs.length)) (l ++ xs) [b] := by
    intro τ old hτ ho hg
    subst hτ ho
    refine ⟨⟨fun c hc hn => ?_, fun c hc => ?_⟩, .inr ⟨τ.size, none, l.length + xs.length, [], [], by rw [List.length_append]; rfl, ?_, by rw [List.length_append]; exact Nat.le_refl _, by rw [List.append_nil, fm_len hsz, List.length_append], .inl rfl, rfl⟩⟩
    · show (τ.alloc _).get c = σ.get c
      rw [AHeap.get_alloc_ne _ _ (by rintro rfl; exact hc hbd)]
      exact hg c hn
    · obtain rfl := List.mem_singleton.1 hc; exact .inr hbd
    · show (τ.alloc _).get τ.size = _
      rw [AHeap.get_alloc_same, List.append_nil, List.nil_append]
  rcases hv with ⟨rfl, rfl, rfl⟩ | ⟨d, ex, c, pre, cs, rfl, h2, h3, h4, h5, rfl⟩
  · by_cases h0 : xs.length = 0
    · refine ⟨.slice none 0 0, σ.resize b, ?_, hq _ _ [] ⟨fun c _ _ => rfl, fun _ h => by cases h⟩ (.inl ⟨by rw [List.nil_append]; exact List.eq_nil_of_length_eq_zero h0, rfl, rfl⟩)⟩
      simp only [aappend, ht, hu, he, hz5, hsrc, c0, h0, Bool.false_eq_true, if_false, if_true, decide_true]
    · obtain ⟨g1, g2⟩ := hnew (σ.resize b) (xs.flatMap enc) rfl rfl (fun c _ => rfl)
      refine ⟨_, _, ?_, hq _ _ _ g1 g2⟩
      have c1 : xs.length * by_ ≤ 140737488355328 := by simpa using hn
      simp only [aappend, ht, hu, he, hz5, hsrc, c0, h0, hoc, hdp, c1, Bool.false_eq_true, if_false, if_true, decide_true, Bool.and_self, List.nil_append, List.length_nil, Nat.zero_add]
      rfl
  · by_cases hfull : l.length + xs.length ≤ c
    · by_cases h0 : xs.length = 0
      · have hx0 := List.eq_nil_of_length_eq_zero h0
        subst hx0
        refine ⟨_, σ.resize b, ?_, hq _ (.slice (some ⟨d, pre.length, ex⟩) l.length c) [d] ⟨fun c _ _ => rfl, fun _ h => .inl h⟩ (.inr ⟨d, ex, c, pre, cs, by rw [List.append_nil], by rw [List.append_nil]; exact h2, by rw [List.append_nil]; exact h3, by rw [List.append_nil]; exact h4, h5, rfl⟩)⟩
        simp only [aappend, ht, hu, he, hz5, hsrc, c0, get_resize, h2, h3, List.length_nil, Nat.add_zero, Bool.false_eq_true, if_false, if_true, decide_true]
      · have hlen : (l.flatMap enc).length + (xs.flatMap enc).length ≤ (l.flatMap enc ++ cs).length := by
          rw [h4, fm_len hsz, fm_len hsz, ← Nat.add_mul]; exact Nat.mul_le_mul_right _ hfull
        have hle : pre.length + l.length * sz + (xs.flatMap enc).length ≤ (pre ++ (l.flatMap enc ++ cs)).length := by
          rw [List.length_append]; rw [fm_len hsz l] at hlen; omega
        have hst : astoreAt (σ.resize b) d (pre.length + l.length * sz) (xs.flatMap enc) = some ((σ.resize b).set d (.cells (splice (pre ++ (l.flatMap enc ++ cs)) (pre.length + l.length * sz) (xs.flatMap enc)) true sz)) := by
          simp only [astoreAt, get_resize, h2, hoc, Bool.true_and]
          rw [if_pos (by simpa using hle)]
        have hsp : splice (pre ++ (l.flatMap enc ++ cs)) (pre.length + l.length * sz) (xs.flatMap enc) = pre ++ ((l ++ xs).flatMap enc ++ cs.drop (xs.flatMap enc).length) := by
          have hcs : (xs.flatMap enc).length ≤ cs.length := by rw [List.length_append] at hlen; omega
          rw [splice, List.take_length_add_append, ← fm_len hsz l, List.take_left' rfl, Nat.add_assoc, ← List.drop_drop, List.drop_left' rfl, ← List.drop_drop, List.drop_left' rfl, List.flatMap_append]
          simp only [List.append_assoc]
        refine ⟨.slice (some ⟨d, pre.length, ex⟩) (l.length + xs.length) c, (σ.resize b).set d (.cells (splice (pre ++ (l.flatMap enc ++ cs)) (pre.length + l.length * sz) (xs.flatMap enc)) true sz), ?_, hq _ _ [d] ⟨fun c' hc' hne => ?_, fun _ h => .inl h⟩ (.inr ⟨d, ex, c, pre, cs.drop (xs.flatMap enc).length, by rw [List.length_append], ?_, by rw [List.length_append]; exact hfull, ?_, h5, rfl⟩)⟩
        · simp only [aappend, ht, hu, he, hz5, hsrc, c0, hfull, get_resize, h2, h0, hst, Bool.false_eq_true, if_false, if_true, decide_true, Option.map_some]
        · show ((σ.resize b).set d _).get c' = σ.get c'
          rw [AHeap.get_set_ne _ _ (by rintro rfl; exact hne (by simp))]; rfl
        · show ((σ.resize b).set d _).get d = _
          rw [AHeap.get_set_same, hsp]
        · rw [List.length_append, List.length_drop, ← h4, List.length_append, List.flatMap_append, List.length_append]
          rw [List.length_append] at hlen
          omega
    · have hne : ¬ xs.length = 0 := fun h0 => hfull (by omega)
      rcases h5 with rfl | rfl
      · by_cases hc : c = l.length
        · subst hc
          have hcs : cs = [] := by
            have : cs.length = 0 := by rw [List.length_append, fm_len hsz] at h4; omega
            exact List.eq_nil_of_length_eq_zero this
          subst hcs
          obtain ⟨g1, g2⟩ := hnew ((σ.resize b).set d .dead) ((l ++ xs).flatMap enc) rfl rfl (fun c hc => by rw [AHeap.get_set_ne _ _ (by rintro rfl; exact hc (by simp))]; rfl)
          refine ⟨_, _, ?_, hq _ _ _ g1 g2⟩
          have hcl : pre.length + l.length * sz = (pre ++ (l.flatMap enc ++ [])).length := by rw [List.length_append, List.append_nil, fm_len hsz]
          have hdr : (pre ++ (l.flatMap enc ++ [])).drop pre.length ++ xs.flatMap enc = (l ++ xs).flatMap enc := by rw [List.drop_left' rfl, List.append_nil, List.flatMap_append]
          simp only [aappend, ht, hu, he, hz5, hsrc, c0, hfull, get_resize, h2, hn, hoc, Bool.false_eq_true, if_false, if_true, decide_true, Bool.and_self]
          rw [if_pos ⟨trivial, hcl⟩, hdr]
          rfl
        · exfalso
          rcases hone with h | ⟨d', n', c', h⟩
          · omega
          · injection h with h; injection h with h; injection h with _ _ h; cases h
      · obtain ⟨g1, g2⟩ := hnew (σ.resize b) ((l ++ xs).flatMap enc) rfl rfl (fun c _ => rfl)
        refine ⟨_, _, ?_, hq _ _ _ (g1.wid (fun _ h => h) fun c hc => .inl hc) g2⟩
        have hle : pre.length + l.length * sz ≤ (pre ++ (l.flatMap enc ++ cs)).length := by rw [List.length_append, List.length_append, fm_len hsz]; omega
        have htk : takeCells (σ.resize b) d pre.length (l.length * sz) = some (l.flatMap enc) := by
          simp only [takeCells, get_resize, h2]
          rw [if_pos hle, List.drop_left' rfl, List.take_left' (fm_len hsz l)]
        simp only [aappend, ht, hu, he, hz5, hsrc, c0, hfull, hn, hoc, htk, Bool.false_eq_true, if_false, if_true, decide_true, Bool.and_self, Option.map_some, List.flatMap_append]
        rfl
end
end Go.Proofs.Ytkhcbbpfchgemaa.AbsA
namespace Go.Proofs.Ytkhcbbpfchgemaa.AbsA
open Go AbsYtkhcbbpfchgemaa Abs
set_option maxRecDepth 100000
set_option maxHeartbeats 4000000
set_option linter.unusedSimpArgs false
set_option linter.unusedVariables false
section
variable {E : Env} {B : AHeap} {α : Type} {enc : α → List Value} {sz : Nat} {σ : AHeap} {v : Value} {l : List α} {fp : List Nat}
/-- all but the first ones -/
theorem GS.drop (h : GS enc sz σ v l fp) (hsz : ∀ a, (enc a).length = sz) {i : Nat} (hi : i ≤ l.length) {t e a1 a2 b2 : Nat} {z z2 : Option (List ZV)} {q q2 : Bool} {k2 : TK} (ht : E.ty.get t = some ⟨.slice e, a1, a2, z, q⟩) (he : E.ty.get e = some ⟨k2, sz, b2, z2, q2⟩) :
    ∃ v', aslice E σ t v (some (.int .i64 (i : Int))) none none = some v' ∧ GS enc sz σ v' (l.drop i) fp := by
  rcases h with ⟨rfl, rfl, rfl⟩ | ⟨d, ex, c, pre, cs, rfl, h2, h3, h4, h5, rfl⟩
  · obtain rfl : i = 0 := by simpa using hi
    refine ⟨.slice none 0 0, ?_, .inl ⟨rfl, rfl, rfl⟩⟩
    simp only [aslice, ht, he]
    rfl
  · have hso : szOk σ d sz = true := by simp only [szOk, h2, Nat.beq_refl, Bool.or_true]
    refine ⟨.slice (some ⟨d, pre.length + i * sz, ex⟩) (l.length - i) (c - i), ?_, .inr ⟨d, ex, c - i, pre ++ (l.take i).flatMap enc, cs, ?_, ?_, ?_, ?_, h5, rfl⟩⟩
    · have c1 : (0 : Int) ≤ (i : Int) ∧ (i : Int) ≤ (l.length : Int) := by omega
      simp only [aslice, ht, he, hso, abound, Option.isSome_none, Bool.false_and, Bool.not_true, Bool.or_false, Bool.false_eq_true, if_false, if_pos c1, Int.toNat_natCast]
    · rw [List.length_drop, List.length_append, fm_len hsz, List.length_take, Nat.min_eq_left hi]
    · rw [h2, List.append_assoc, ← List.append_assoc (List.flatMap enc (l.take i)), ← List.flatMap_append, List.take_append_drop]
    · rw [List.length_drop]; omega
    · have : (l.flatMap enc ++ cs).length = l.length * sz + cs.length := by rw [List.length_append, fm_len hsz]
      rw [List.length_append, fm_len hsz, List.length_drop, Nat.sub_mul, Nat.sub_mul]
      have h6 : i * sz ≤ l.length * sz := Nat.mul_le_mul_right _ hi
      have h7 : l.length * sz ≤ c * sz := Nat.mul_le_mul_right _ h3
      omega
theorem reps_length (z : List Value) (k : Nat) : (reps z k).length = k * z.length := by
  induction k with
  | zero => simp [reps]
  | succ k ih => simp only [reps, List.length_append, ih, Nat.succ_mul]; omega
/-- one is taken out in its place: the steps of slices.Delete -/
theorem GS.del (h : GS enc sz σ v l fp) (hsz : ∀ a, (enc a).length = sz) (ho : ∀ a, (enc a).all oneCell = true) {i : Nat} (hi : i < l.length) {t e u by_ a1 a2 : Nat} {z1 : Option (List ZV)} {q1 q2 : Bool} {k2 : TK} {zs : List ZV} {iu : TI}
    (ht : E.ty.get t = some ⟨.slice e, a1, a2, z1, q1⟩) (he : E.ty.get e = some ⟨k2, sz, by_, some zs, q2⟩) (hz : zs.length = sz) (hzo : (zs.map ZV.val).all oneCell = true) (hs0 : 0 < sz) (hby : 0 < by_) (hu : E.ty.get u = some iu) (hki : iu.k.isInt = false) :
    ∃ va vb vd v1 vc σ1 o2 d, aslice E σ t v (some (.int .i64 (i : Int))) (some (.int .i64 ((i + 1 : Nat) : Int))) (some (.int .i64 (l.length : Int))) = some vd ∧ aslice E σ t v none (some (.int .i64 (i : Int))) none = some va ∧ aslice E σ t v (some (.int .i64 ((i + 1 : Nat) : Int))) none none = some vb ∧
      (∀ b, aappend E (σ.resize b) [t, u] [va, vb] = some (v1, σ1.resize b)) ∧ (∀ b, (σ1.resize b).resize σ.size = σ1) ∧ abuiltin E σ1 .len [t] [v1] = some (.int .i64 ((l.length - 1 : Nat) : Int), σ1) ∧ aslice E σ1 t v1 (some (.int .i64 ((l.length - 1 : Nat) : Int))) (some (.int .i64 (l.length : Int))) none = some vc ∧
      abuiltin E σ1 .clear [t] [vc] = some (.tuple #[], σ1.set d o2) ∧ fp = [d] ∧ (∀ c, c ≠ d → σ1.get c = σ.get c) ∧ GS enc sz (σ1.set d o2) v1 (l.eraseIdx i) [d] := by
  rcases h with ⟨rfl, rfl, rfl⟩ | ⟨d, ex, c, pre, cs, rfl, h2, h3, h4, h5, rfl⟩
  · simp at hi
  have hz5 : azero E e = some (zs.map ZV.val) := by unfold azero; rw [he]; rfl
  have hso : szOk σ d sz = true := by simp only [szOk, h2, Nat.beq_refl, Bool.or_true]
  have hlenA : (pre ++ (l.flatMap enc ++ cs)).length = pre.length + c * sz := by rw [List.length_append, h4]
  have m1 : i * sz + sz ≤ l.length * sz := by rw [← Nat.succ_mul]; exact Nat.mul_le_mul_right _ hi
  have m2 : l.length * sz ≤ c * sz := Nat.mul_le_mul_right _ h3
  have e1 : (l.length - 1) * sz + sz = l.length * sz := by rw [← Nat.succ_mul]; congr 1; omega
  have e2 : (l.length - (i + 1)) * sz = l.length * sz - (i * sz + sz) := by rw [Nat.sub_mul, Nat.succ_mul]
  -- what is moved
  have hmv : ((pre ++ (l.flatMap enc ++ cs)).drop (pre.length + (i + 1) * sz)).take ((l.length - (i + 1)) * sz) = (l.drop (i + 1)).flatMap enc := by
    rw [← List.drop_drop, List.drop_left' rfl, List.drop_append_of_le_length (by rw [fm_len hsz]; exact Nat.mul_le_mul_right _ hi), fm_drop hsz l (i + 1) hi]
    exact List.take_left' (by rw [fm_len hsz, List.length_drop])
  have hbig : (l.eraseIdx i).flatMap enc = (l.take i).flatMap enc ++ (l.drop (i + 1)).flatMap enc := by rw [List.eraseIdx_eq_take_drop_succ, List.flatMap_append]
  have hel : (l.eraseIdx i).length = l.length - 1 := by rw [List.length_eraseIdx, if_pos hi]
  have hml : ((l.drop (i + 1)).flatMap enc).length = (l.length - (i + 1)) * sz := by rw [fm_len hsz, List.length_drop]
  have hoc := fm_oc ho (l.drop (i + 1))
  -- behind the move
  have hsp : splice (pre ++ (l.flatMap enc ++ cs)) (pre.length + i * sz) ((l.drop (i + 1)).flatMap enc) = pre ++ ((l.eraseIdx i).flatMap enc ++ (pre ++ (l.flatMap enc ++ cs)).drop (pre.length + (l.length - 1) * sz)) := by
    rw [splice, hml, List.take_length_add_append, List.take_append_of_le_length (by rw [fm_len hsz]; omega), fm_take hsz l i (by omega), hbig]
    have : pre.length + i * sz + (l.length - (i + 1)) * sz = pre.length + (l.length - 1) * sz := by rw [e2]; omega
    rw [this]
    simp only [List.append_assoc]
  have hA2 : ∀ X : List Value, (pre ++ ((l.eraseIdx i).flatMap enc ++ X)).take (pre.length + (l.length - 1) * sz) = pre ++ (l.eraseIdx i).flatMap enc := fun X => by
    rw [List.take_length_add_append, List.take_left' (by rw [fm_len hsz, hel])]
  generalize hX : (pre ++ (l.flatMap enc ++ cs)).drop (pre.length + (l.length - 1) * sz) = X at hsp
  have hXl : X.length = c * sz - (l.length - 1) * sz := by rw [← hX, List.length_drop, hlenA]; omega
  obtain ⟨σ1, g1, gs, gr, gn⟩ : ∃ σ1 : AHeap, σ1.get d = .cells (pre ++ ((l.eraseIdx i).flatMap enc ++ X)) true sz ∧ (∀ b, (l.length - (i + 1) = 0 ∧ σ1 = σ) ∨ (¬ l.length - (i + 1) = 0 ∧ astoreAt (σ.resize b) d (pre.length + i * sz) ((l.drop (i + 1)).flatMap enc) = some (σ1.resize b))) ∧ (∀ b, (σ1.resize b).resize σ.size = σ1) ∧ ∀ c, c ≠ d → σ1.get c = σ.get c := by
    by_cases h0 : l.length - (i + 1) = 0
    · refine ⟨σ, ?_, fun b => .inl ⟨h0, rfl⟩, fun b => rfl, fun c _ => rfl⟩
      rw [h2, ← hsp]
      have hd0 : l.drop (i + 1) = [] := List.drop_eq_nil_of_le (by omega)
      rw [hd0, List.flatMap_nil, splice, List.length_nil, Nat.add_zero, List.append_nil, List.take_append_drop]
    · refine ⟨σ.set d (.cells (pre ++ ((l.eraseIdx i).flatMap enc ++ X)) true sz), AHeap.get_set_same _ _ _, fun b => .inr ⟨h0, ?_⟩, fun b => rfl, fun c hc => AHeap.get_set_ne _ _ hc.symm⟩
      have hle : pre.length + i * sz + ((l.drop (i + 1)).flatMap enc).length ≤ (pre ++ (l.flatMap enc ++ cs)).length := by rw [hml, hlenA, e2]; omega
      simp only [astoreAt, get_resize, h2, hoc, Bool.true_and]
      rw [if_pos (by simpa using hle), hsp]
      rfl
  have hclr : astoreAt σ1 d (pre.length + (l.length - 1) * sz) (reps (zs.map ZV.val) 1) = some (σ1.set d (.cells (pre ++ ((l.eraseIdx i).flatMap enc ++ (zs.map ZV.val ++ X.drop sz))) true sz)) := by
    have hr1 : reps (zs.map ZV.val) 1 = zs.map ZV.val := by simp [reps]
    have hle : pre.length + (l.length - 1) * sz + (zs.map ZV.val).length ≤ (pre ++ ((l.eraseIdx i).flatMap enc ++ X)).length := by
      rw [List.length_map, hz, List.length_append, List.length_append, fm_len hsz, hel, hXl]; omega
    rw [hr1]
    simp only [astoreAt, g1, hzo, Bool.true_and]
    rw [if_pos (by simpa using hle)]
    congr 3
    rw [splice, hA2, List.length_map, hz, Nat.add_assoc, ← List.drop_drop, List.drop_left' rfl, ← List.drop_drop, List.drop_left' (by rw [fm_len hsz, hel])]
    simp only [List.append_assoc]
  refine ⟨.slice (some ⟨d, pre.length, ex⟩) i c, .slice (some ⟨d, pre.length + (i + 1) * sz, ex⟩) (l.length - (i + 1)) (c - (i + 1)), .slice (some ⟨d, pre.length + i * sz, some 1⟩) (i + 1 - i) (l.length - i), .slice (some ⟨d, pre.length, ex⟩) (l.length - 1) c, .slice (some ⟨d, pre.length + (l.length - 1) * sz, ex⟩) (l.length - (l.length - 1)) (c - (l.length - 1)), σ1, .cells (pre ++ ((l.eraseIdx i).flatMap enc ++ (zs.map ZV.val ++ X.drop sz))) true sz, d, ?_, ?_, ?_, fun b => ?_, gr, ?_, ?_, ?_, rfl, gn, ?_⟩
  · have c1 : (0 : Int) ≤ (l.length : Int) ∧ (l.length : Int) ≤ (c : Int) := by omega
    have c2 : (0 : Int) ≤ ((i + 1 : Nat) : Int) ∧ ((i + 1 : Nat) : Int) ≤ (l.length : Int) := by omega
    have c3 : (0 : Int) ≤ (i : Int) ∧ (i : Int) ≤ ((i + 1 : Nat) : Int) := by omega
    simp only [aslice, ht, he, hso, abound, Option.isSome_some, Option.isNone_some, Bool.and_false, Bool.not_true, Bool.or_false, Bool.false_eq_true, if_false, if_true, if_pos c1, if_pos c2, if_pos c3, Int.toNat_natCast]
  · have c1 : (0 : Int) ≤ (i : Int) ∧ (i : Int) ≤ (c : Int) := by omega
    simp only [aslice, ht, he, hso, abound, Option.isSome_none, Bool.false_and, Bool.not_true, Bool.or_false, Bool.false_eq_true, if_false, if_pos c1, Int.toNat_natCast, Nat.zero_mul, Nat.add_zero, Nat.sub_zero]
  · have c1 : (0 : Int) ≤ ((i + 1 : Nat) : Int) ∧ ((i + 1 : Nat) : Int) ≤ (l.length : Int) := by omega
    simp only [aslice, ht, he, hso, abound, Option.isSome_none, Bool.false_and, Bool.not_true, Bool.or_false, Bool.false_eq_true, if_false, if_pos c1, Int.toNat_natCast]
  · have c0 : (decide (sz = 0) || decide (by_ = 0) || (zs.map ZV.val).length != sz || iu.k.isInt) = false := by
      rw [List.length_map, hz, hki]
      have h1 : decide (sz = 0) = false := by simp; omega
      have h2 : decide (by_ = 0) = false := by simp; omega
      rw [h1, h2]; simp
    have hsrc : srcCells (σ.resize b) sz (.slice (some ⟨d, pre.length + (i + 1) * sz, ex⟩) (l.length - (i + 1)) (c - (i + 1))) = some (l.length - (i + 1), (l.drop (i + 1)).flatMap enc) := by
      have hle : pre.length + (i + 1) * sz + (l.length - (i + 1)) * sz ≤ (pre ++ (l.flatMap enc ++ cs)).length := by rw [hlenA, e2, Nat.succ_mul]; omega
      simp only [srcCells, takeCells, get_resize, h2]
      rw [if_pos hle, hmv]
      rfl
    have hfull : i + (l.length - (i + 1)) ≤ c := by omega
    have hil : i + (l.length - (i + 1)) = l.length - 1 := by omega
    have hc1 : l.length - 1 ≤ c := by omega
    rcases gs b with ⟨h0, e⟩ | ⟨h0, e⟩
    · have hil' : l.length - 1 = i := by omega
      subst e
      rw [h0] at hsrc
      rw [h0]
      have hic : i ≤ c := by omega
      simp only [aappend, ht, hu, he, hz5, hsrc, c0, get_resize, h2, hil', hic, Nat.add_zero, Bool.false_eq_true, if_false, if_true, decide_true]
    · simp only [aappend, ht, hu, he, hz5, hsrc, c0, hfull, get_resize, h2, h0, e, Bool.false_eq_true, if_false, if_true, decide_true, Option.map_some]
      rw [hil]
  · simp only [abuiltin, ht, goInt]
  · have c1 : (0 : Int) ≤ (l.length : Int) ∧ (l.length : Int) ≤ (c : Int) := by omega
    have c2 : (0 : Int) ≤ ((l.length - 1 : Nat) : Int) ∧ ((l.length - 1 : Nat) : Int) ≤ (l.length : Int) := by omega
    have hso2 : szOk σ1 d sz = true := by simp only [szOk, g1, Nat.beq_refl, Bool.or_true]
    simp only [aslice, ht, he, hso2, abound, Option.isSome_none, Bool.false_and, Bool.not_true, Bool.or_false, Bool.false_eq_true, if_false, if_pos c1, if_pos c2, Int.toNat_natCast]
  · have c0 : (decide (sz = 0) || (zs.map ZV.val).length != sz || decide (l.length - (l.length - 1) = 0)) = false := by
      rw [List.length_map, hz]
      have h1 : decide (sz = 0) = false := by simp; omega
      have h2 : decide (l.length - (l.length - 1) = 0) = false := by simp; omega
      rw [h1, h2]; simp
    have h1 : l.length - (l.length - 1) = 1 := by omega
    rw [h1] at c0 ⊢
    simp only [abuiltin, ht, he, hz5, c0, hclr, Bool.false_eq_true, if_false, Option.map_some]
  · refine .inr ⟨d, ex, c, pre, zs.map ZV.val ++ X.drop sz, by rw [hel], AHeap.get_set_same _ _ _, by rw [hel]; omega, ?_, h5, rfl⟩
    rw [List.length_append, fm_len hsz, hel, List.length_append, List.length_map, hz, List.length_drop, hXl]
    omega
end
end Go.Proofs.Ytkhcbbpfchgemaa.AbsA
