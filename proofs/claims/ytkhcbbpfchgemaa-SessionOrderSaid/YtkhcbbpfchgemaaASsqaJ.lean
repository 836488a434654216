/-
  Parts of a law's proof.
-/
import Derived.Test.YtkhcbbpfchgemaaASbqaJ
import Derived.Test.YtkhcbbpfchgemaaAMe
import Derived.Test.YtkhcbbpfchgemaaAEnvH
namespace Go.Proofs.Ytkhcbbpfchgemaa.AbsA
open Go AbsYtkhcbbpfchgemaa Abs
set_option maxRecDepth 100000
set_option maxHeartbeats 4000000
set_option linter.unusedSimpArgs false
set_option linter.unusedVariables false
/-- things in a slice that nobody writes, and that may grow; and where the token of going on lies -/
def DG {α : Type} (enc : α → List Value) (sz : Nat) (σ : AHeap) (v : Value) (l : List α) (fp : List Nat) : Prop :=
  (l = [] ∧ v = .slice none 0 0 ∧ fp = []) ∨ ∃ m, v = dsl m sz l.length (l.flatMap enc) ∧ ((m = 1 ∧ fp = []) ∨ ∃ t, m = t + 2 ∧ σ.get t = .cells [] true sz ∧ fp = [t])
section
variable {E : Env} {B : AHeap} {α : Type} {enc : α → List Value} {sz : Nat} {σ σ' : AHeap} {v : Value} {l : List α} {fp : List Nat}
theorem DG.nil : DG enc sz σ (.slice none 0 0) ([] : List α) [] := .inl ⟨rfl, rfl, rfl⟩
theorem DG.kept {gp gp' : List Nat} (h : DG enc sz σ v l fp) (k : Kept σ gp σ' gp') (hd : ∀ b ∈ fp, b ∉ gp) : DG enc sz σ' v l fp := by
  rcases h with h | ⟨m, h1, h2⟩
  · exact .inl h
  · rcases h2 with h2 | ⟨t, h3, h4, h5⟩
    · exact .inr ⟨m, h1, .inl h2⟩
    · exact .inr ⟨m, h1, .inr ⟨t, h3, by rw [k.get t (by rw [h4]; simp) (hd t (by rw [h5]; simp))]; exact h4, h5⟩⟩
theorem DG.live (h : DG enc sz σ v l fp) : ∀ b ∈ fp, σ.get b ≠ .dead := by
  rcases h with ⟨_, _, rfl⟩ | ⟨m, _, ⟨_, rfl⟩ | ⟨t, _, h4, rfl⟩⟩ <;> intro b hb
  · cases hb
  · cases hb
  · obtain rfl := List.mem_singleton.1 hb; rw [h4]; simp
theorem DG.bare (h : DG enc sz σ v l fp) : DL enc sz (bare v) l := by
  rcases h with ⟨h1, rfl, _⟩ | ⟨m, rfl, _⟩
  · exact .inl ⟨h1, rfl⟩
  · exact .inr ⟨_, rfl⟩
theorem DG.dl (h : DG enc sz σ v l fp) : DL enc sz v l := by
  rcases h with ⟨h1, rfl, _⟩ | ⟨m, rfl, _⟩
  · exact .inl ⟨h1, rfl⟩
  · exact .inr ⟨_, rfl⟩
theorem bareL_app : ∀ (a b : List Value), bareL (a ++ b) = bareL a ++ bareL b
  | [], _ => rfl
  | v :: a, b => by show bare v :: bareL (a ++ b) = _; rw [bareL_app a b]; rfl
theorem bareL_flat (hb : ∀ a, bareL (enc a) = enc a) : ∀ l : List α, bareL (l.flatMap enc) = l.flatMap enc
  | [] => rfl
  | a :: l => by rw [List.flatMap_cons, bareL_app, hb, bareL_flat hb l]
theorem frzL_flat (hf : ∀ a, frzL E.ng E.nb (enc a) = true) : ∀ l : List α, frzL E.ng E.nb (l.flatMap enc) = true
  | [] => by simp [frzL]
  | a :: l => by rw [List.flatMap_cons]; exact AbsYtkhcbbpfchgemaa.frzL_append (hf a) (frzL_flat hf l)
theorem oc_flat (ho : ∀ a, (enc a).all oneCell = true) (l : List α) : (l.flatMap enc).all oneCell = true := by
  rw [List.all_flatMap]
  rw [List.all_eq_true]
  intro a _
  exact ho a
theorem app_deep {K : Value → AHeap → Prop} {x : Value} {xs : List α} {t e u by_ a1 a2 : Nat} {z1 : Option (List ZV)} {q1 q2 : Bool} {k2 : TK} {zs : List ZV} {iu : TI}
    (ht : E.ty.get t = some ⟨.slice e, a1, a2, z1, q1⟩) (he : E.ty.get e = some ⟨k2, sz, by_, some zs, q2⟩) (hz : zs.length = sz) (hs0 : 0 < sz) (hby : 0 < by_) (hu : E.ty.get u = some iu) (hki : iu.k.isInt = false) (hdp : E.dp t = true)
    (hb : ∀ a, bareL (enc a) = enc a) (hf : ∀ a, frzL E.ng E.nb (enc a) = true) (ho : ∀ a, (enc a).all oneCell = true)
    (hv : DG enc sz σ v l fp) (hx : srcCells σ sz x = some (xs.length, xs.flatMap enc)) (hn : (l.length + xs.length) * by_ ≤ 140737488355328) (hq : ∀ σ' v' fp', Kept σ fp σ' fp' → DG enc sz σ' v' (l ++ xs) fp' → K v' σ') :
    afterOpS E B (some (.any fun b => aappend E (σ.resize b) [t, u] [v, x])) σ K := by
  intro b hb0
  have hbd : σ.get b = .dead := by
    rcases hg : σ.get b with _ | _ | _
    · rfl
    · exact absurd (hb0 b (by rw [hg]; simp)) (Nat.lt_irrefl _)
    · exact absurd (hb0 b (by rw [hg]; simp)) (Nat.lt_irrefl _)
  have hz5 : azero E e = some (zs.map ZV.val) := by unfold azero; rw [he]; rfl
  have hsrc : srcCells (σ.resize b) sz x = some (xs.length, xs.flatMap enc) := hx
  have hbare := bareL_flat hb xs
  have hfz := frzL_flat hf xs
  have hoc := oc_flat ho xs
  have c0 : (sz == 0 || by_ == 0 || (zs.map ZV.val).length != sz || iu.k.isInt) = false := by
    rw [List.length_map, hz, hki]
    have h1 : (sz == 0) = false := by simp; omega
    have h2 : (by_ == 0) = false := by simp; omega
    rw [h1, h2]; simp
  have c0' : (decide (sz = 0) || decide (by_ = 0) || (zs.map ZV.val).length != sz || iu.k.isInt) = false := by
    rw [List.length_map, hz, hki]
    have h1 : decide (sz = 0) = false := by simp; omega
    have h2 : decide (by_ = 0) = false := by simp; omega
    rw [h1, h2]; simp
  have hnew : ∀ τ : AHeap, τ.size = b → (∀ c, c ∉ fp → τ.get c = σ.get c) → Kept σ fp ((deepNew τ sz (l.length + xs.length) ((l ++ xs).flatMap enc)).2.resize σ.size) [b] ∧ DG enc sz ((deepNew τ sz (l.length + xs.length) ((l ++ xs).flatMap enc)).2.resize σ.size) (deepNew τ sz (l.length + xs.length) ((l ++ xs).flatMap enc)).1 (l ++ xs) [b] := by
    intro τ hτ hg
    subst hτ
    refine ⟨⟨fun c hc hn => ?_, fun c hc => ?_⟩, .inr ⟨τ.size + 2, by simp only [deepNew, List.length_append], .inr ⟨τ.size, rfl, AHeap.get_alloc_same _ _, rfl⟩⟩⟩
    · show (τ.alloc _).get c = σ.get c
      rw [AHeap.get_alloc_ne _ _ (by rintro rfl; exact hc hbd)]
      exact hg c hn
    · obtain rfl := List.mem_singleton.1 hc; exact .inr hbd
  rcases hv with ⟨rfl, rfl, rfl⟩ | ⟨m, rfl, hm⟩
  · by_cases h0 : xs.length = 0
    · refine ⟨.slice none 0 0, σ.resize b, ?_, hq _ _ [] ⟨fun c _ _ => rfl, fun _ h => by cases h⟩ (.inl ⟨by rw [List.nil_append]; exact List.eq_nil_of_length_eq_zero h0, rfl, rfl⟩)⟩
      simp only [aappend, ht, hu, he, hz5, hsrc, c0, c0', h0, Bool.false_eq_true, if_false, if_true, decide_true]
      try simp
    · obtain ⟨g1, g2⟩ := hnew (σ.resize b) rfl (fun c _ => rfl)
      refine ⟨_, _, ?_, hq _ _ _ g1 g2⟩
      have c1 : xs.length * by_ ≤ 140737488355328 := by simpa using hn
      simp only [aappend, ht, hu, he, hz5, hsrc, c0, c0', h0, hoc, hbare, hfz, hdp, c1, Bool.false_eq_true, if_false, if_true, decide_true, Bool.and_self, List.nil_append, List.length_nil, Nat.zero_add]
  · by_cases h0 : xs.length = 0
    · refine ⟨_, σ.resize b, ?_, hq _ (dsl m sz l.length (l.flatMap enc)) fp ⟨fun c _ _ => rfl, fun _ h => .inl h⟩ (.inr ⟨m, by rw [List.eq_nil_of_length_eq_zero h0, List.append_nil], hm⟩)⟩
      simp only [aappend, ht, hu, he, hz5, hsrc, c0, c0', h0, dsl, Bool.false_eq_true, if_false, if_true, decide_true]
    · have c2 : (l.flatMap enc ++ xs.flatMap enc) = (l ++ xs).flatMap enc := by rw [List.flatMap_append]
      rcases hm with ⟨rfl, rfl⟩ | ⟨tk, rfl, hg, rfl⟩
      · obtain ⟨g1, g2⟩ := hnew (σ.resize b) rfl (fun c _ => rfl)
        refine ⟨_, _, ?_, hq _ _ _ g1 g2⟩
        simp only [aappend, ht, hu, he, hz5, hsrc, c0, c0', h0, dsl, hn, hoc, hbare, hfz, c2, Bool.false_eq_true, if_false, if_true, decide_true, Bool.and_self]
      · obtain ⟨g1, g2⟩ := hnew ((σ.resize b).set tk .dead) rfl (fun c hc => by rw [AHeap.get_set_ne _ _ (by rintro rfl; exact hc (by simp))]; rfl)
        refine ⟨_, _, ?_, hq _ _ _ g1 g2⟩
        simp only [aappend, ht, hu, he, hz5, hsrc, c0, c0', h0, dsl, hn, hoc, hbare, hfz, c2, get_resize, hg, Bool.false_eq_true, if_false, if_true, decide_true, Bool.and_self]
end
end Go.Proofs.Ytkhcbbpfchgemaa.AbsA
namespace Go.Proofs.Ytkhcbbpfchgemaa.AbsA
open Go AbsYtkhcbbpfchgemaa Abs
set_option maxRecDepth 100000
set_option maxHeartbeats 4000000
set_option linter.unusedSimpArgs false
set_option linter.unusedVariables false
attribute [local irreducible] afterS afterOpS opSK OpsS TrS CodeS condS condW thenS thenQ guardS guardTS outS drawS trSK consS
abbrev ik : Int → Value := Value.int .i64
theorem ikeys : Keys ik (.int .i64) := int_keys _ _
def cand (last : Int) (j : Nat) : Int := (last + j) % 65535 + 1
def First (last : Int) (K : List Int) (j : Nat) : Prop := (∀ i, i < j → cand last i ∈ K) ∧ cand last j ∉ K
def NextIs (last : Int) (K : List Int) (c : Int) : Prop := ∃ j, First last K j ∧ c = cand last j
theorem some_free {last : Int} : ∀ (k : Nat) (K : List Int), K.length ≤ k → k < 65535 → ∃ i, i ≤ k ∧ cand last i ∉ K
  | 0, K, h, _ => ⟨0, Nat.le_refl _, by rw [List.eq_nil_of_length_eq_zero (by omega : K.length = 0)]; simp⟩
  | k + 1, K, h, hk => by
    by_cases hc : cand last (k + 1) ∈ K
    · obtain ⟨i, hi, hn⟩ := some_free (last := last) k (K.erase (cand last (k + 1))) (by rw [List.length_erase_of_mem hc]; omega) (by omega)
      refine ⟨i, by omega, fun hm => hn ((List.mem_erase_of_ne ?_).2 hm)⟩
      unfold cand; omega
    · exact ⟨k + 1, Nat.le_refl _, hc⟩
theorem least_free {last : Int} {K : List Int} : ∀ n, (∃ i, i ≤ n ∧ cand last i ∉ K) → ∃ j, j ≤ n ∧ First last K j
  | 0, ⟨i, hi, h⟩ => ⟨0, Nat.le_refl _, fun i hi => by omega, by rw [show (0 : Nat) = i by omega]; exact h⟩
  | n + 1, ⟨i, hi, h⟩ => by
    by_cases hx : ∃ i, i ≤ n ∧ cand last i ∉ K
    · obtain ⟨j, hj, hf⟩ := least_free n hx
      exact ⟨j, by omega, hf⟩
    · have hi' : i = n + 1 := by
        by_cases hlt : i ≤ n
        · exact (hx ⟨i, hlt, h⟩).elim
        · omega
      refine ⟨n + 1, Nat.le_refl _, fun k hk => ?_, hi' ▸ h⟩
      by_cases hm : cand last k ∈ K
      · exact hm
      · exact (hx ⟨k, by omega, hm⟩).elim
theorem first_ex {last : Int} {K : List Int} (h : K.length ≤ 100) : ∃ j, j ≤ 100 ∧ First last K j := least_free 100 (some_free 100 K h (by omega))
theorem cand_lo {last : Int} {j : Nat} : 1 ≤ cand last j := by unfold cand; omega
/-! ### numbers in use -/
def kmap (K : List Int) : List (Int × Value) := K.map fun a => (a, .bool true)
theorem kmap_lkp (K : List Int) (a : Int) : lkp (kmap K) a = if a ∈ K then some (.bool true) else none := by
  induction K with
  | nil => rfl
  | cons b K ih =>
    show (if b = a then some (.bool true) else lkp (kmap K) a) = _
    by_cases h : b = a
    · rw [if_pos h, if_pos (by simp [h])]
    · rw [if_neg h, ih]
      by_cases hk : a ∈ K
      · rw [if_pos hk, if_pos (by simp [hk])]
      · rw [if_neg hk, if_neg (by simp [hk, Ne.symm h])]
theorem kmap_del (K : List Int) (a : Int) : mdel (kmap K) a = kmap (K.erase a) := by
  induction K with
  | nil => rfl
  | cons b K ih =>
    show (if b = a then kmap K else (b, .bool true) :: mdel (kmap K) a) = _
    rw [List.erase_cons]
    by_cases h : b = a
    · rw [if_pos h, if_pos (by simp [h])]
    · rw [if_neg h, if_neg (by simp [h]), ih]; rfl
theorem kmap_put {K : List Int} {a : Int} (h : a ∉ K) : mput (kmap K) a (.bool true) = kmap (K ++ [a]) := by
  rw [mput_new (by rw [kmap_lkp, if_neg h])]; simp [kmap]
theorem kmap_len (K : List Int) : (kmap K).length = K.length := by simp [kmap]
structure Pid (σ : AHeap) (bp bm : Nat) (last : Int) (K : List Int) : Prop where
  gp : σ.get bp = .cells [.int .i64 65535, .int .i64 last, .map (some bm)] true 0
  mp : MapIs ik σ bm (kmap K)
  lo : 0 ≤ last
  hi : last ≤ 65535
section
variable {σ : AHeap} {Q : Value → AHeap → Prop} {bp bm : Nat} {last a : Int} {K : List Int}
theorem Pid.gm (h : Pid σ bp bm last K) : ∃ es clk, σ.get bm = .map es clk := by
  obtain ⟨es, clk, h1, _⟩ := h.mp
  exact ⟨es, clk, h1⟩
theorem Pid.kept {σ' : AHeap} {gp gp' : List Nat} (h : Pid σ bp bm last K) (k : Kept σ gp σ' gp') (h1 : bp ∉ gp) (h2 : bm ∉ gp) : Pid σ' bp bm last K := by
  obtain ⟨es, clk, g⟩ := h.gm
  exact ⟨(k.at h.gp (by simp) h1).1, h.mp.keep (by rw [(k.at g (by simp) h2).1, g]), h.lo, h.hi⟩
theorem Pid.ne (h : Pid σ bp bm last K) : bp ≠ bm := by
  rintro rfl
  obtain ⟨es, clk, h1⟩ := h.gm
  rw [h.gp] at h1; cases h1
theorem Pid.look (h : Pid σ bp bm last K) : alookup E σ 105 (.map (some bm)) (.int .i64 a) false = some (.bool (decide (a ∈ K))) := by
  have hlook := h.mp.look (E := E) ikeys (t := 105) (x := a) (zv := .bool false) ty105 rfl rfl false
  have hv : luRes false ((lkp (kmap K) a).getD (.bool false)) (lkp (kmap K) a).isSome = .bool (decide (a ∈ K)) := by
    rw [kmap_lkp]; by_cases hh : a ∈ K <;> simp [hh, luRes]
  rw [hv] at hlook
  exact hlook
theorem specPIs (h : Pid σ bp bm last K) (hq : Q (.bool (decide (a ∈ K))) σ) : CallS E B 73 [.pointer (some ⟨bp, 0, none⟩), .int .i64 a] σ Q := by
  have hl := h.look (a := a)
  have g := h.gp
  refine call73 (by simp) ?_
  simp only [strip, bodyOf, Try.f73, getD_body, keepN, bareOp_mk, lessOp_mk, lapp_cons, lapp_nil, List.map_cons, List.map_nil, array_toList, ↓reduceIte, Nat.reduceEqDiff, Bool.false_eq_true]
  simp (disch := first | assumption | simp) only [↓sbD, sbU, tyB, Nat.reduceMul, Nat.reduceSub, Int.reduceEq, Int.reduceLT, Int.reduceLE, Int.reduceNe, Nat.reduceBneDiff, Nat.reduceBEq, decide_false, gt_iff_lt, Bool.or_self, Bool.false_eq_true, Nat.mul_one, Nat.one_mul, Nat.zero_mul, ↓reduceIte, Nat.reduceEqDiff, Nat.reduceLT, Nat.reduceAdd, Nat.reduceLeDiff, reduceCtorEq, goInt, pairs, isConst, TI.isAgg, splice, boxS, Edp, dpv, Nat.beq_eq, ZV.val, List.any_cons, List.any_nil, Bool.false_and, g, hl]
  exact downS_here hq
theorem specPUse (h : Pid σ bp bm last K) (h1 : 1 ≤ a) (h2 : a ≤ 65535) (hin : a ∈ K → Q (.bool false) σ) (hout : a ∉ K → ∀ o, Pid (σ.set bm o) bp bm last (K ++ [a]) → Q (.bool true) (σ.set bm o)) : CallS E B 72 [.pointer (some ⟨bp, 0, none⟩), .int .i64 a] σ Q := by
  have hl := h.look (a := a)
  have g := h.gp
  obtain ⟨o, hput, hm2⟩ := h.mp.put (E := E) ikeys (t := 105) (x := a) ty105 rfl (.bool true)
  have n1 : ¬ a < 1 := by omega
  have n2 : ¬ (65535 : Int) < a := by omega
  by_cases hh : a ∈ K
  · simp only [hh, decide_true] at hl
    refine call72 (by simp) ?_
    simp only [strip, bodyOf, Try.f72, getD_body, keepN, bareOp_mk, lessOp_mk, lapp_cons, lapp_nil, List.map_cons, List.map_nil, array_toList, ↓reduceIte, Nat.reduceEqDiff, Bool.false_eq_true]
    simp (disch := first | assumption | simp) only [↓sbD, sbU, tyB, Nat.reduceMul, Nat.reduceSub, Int.reduceEq, Int.reduceLT, Int.reduceLE, Int.reduceNe, Nat.reduceBneDiff, Nat.reduceBEq, decide_false, gt_iff_lt, Bool.or_self, Bool.false_eq_true, Nat.mul_one, Nat.one_mul, Nat.zero_mul, ↓reduceIte, Nat.reduceEqDiff, Nat.reduceLT, Nat.reduceAdd, Nat.reduceLeDiff, reduceCtorEq, goInt, pairs, isConst, TI.isAgg, splice, boxS, Edp, dpv, Nat.beq_eq, ZV.val, List.any_cons, List.any_nil, Bool.false_and, g, n1, n2, hl]
    exact downS_here (hin hh)
  · simp only [hh, decide_false] at hl
    refine call72 (by simp) ?_
    simp only [strip, bodyOf, Try.f72, getD_body, keepN, bareOp_mk, lessOp_mk, lapp_cons, lapp_nil, List.map_cons, List.map_nil, array_toList, ↓reduceIte, Nat.reduceEqDiff, Bool.false_eq_true]
    simp (disch := first | assumption | simp) only [↓sbD, sbU, tyB, Nat.reduceMul, Nat.reduceSub, Int.reduceEq, Int.reduceLT, Int.reduceLE, Int.reduceNe, Nat.reduceBneDiff, Nat.reduceBEq, decide_false, gt_iff_lt, Bool.or_self, Bool.false_eq_true, Nat.mul_one, Nat.one_mul, Nat.zero_mul, ↓reduceIte, Nat.reduceEqDiff, Nat.reduceLT, Nat.reduceAdd, Nat.reduceLeDiff, reduceCtorEq, goInt, pairs, isConst, TI.isAgg, splice, boxS, Edp, dpv, Nat.beq_eq, ZV.val, List.any_cons, List.any_nil, Bool.false_and, g, n1, n2, hl, hput]
    refine downS_here (hout hh o ⟨?_, ?_, h.lo, h.hi⟩)
    · rw [AHeap.get_set_ne _ _ (Ne.symm h.ne)]; exact g
    · rw [← kmap_put hh]; exact hm2
theorem specPNext (h : Pid σ bp bm last K) (hK : K.length ≤ 100) (hq : ∀ c σ', NextIs last K c → Pid σ' bp bm c (K ++ [c]) → Kept σ [bp, bm] σ' [bp, bm] → Q (.tuple #[.int .i64 c, .bool true]) σ') : CallS E B 65 [.pointer (some ⟨bp, 0, none⟩)] σ Q := by
  have g := h.gp
  have hlen := h.mp.len (E := E) (t := 105) (ts := []) ty105
  rw [kmap_len] at hlen
  have hfit : ¬ (65535 : Int) ≤ (K.length : Int) := by omega
  refine call65 (by simp) ?_
  simp only [strip, bodyOf, Try.f65, getD_body, keepN, bareOp_mk, lessOp_mk, lapp_cons, lapp_nil, List.map_cons, List.map_nil, array_toList, ↓reduceIte, Nat.reduceEqDiff, Bool.false_eq_true]
  simp (disch := first | assumption | simp) only [↓sbD, sbU, tyB, Nat.reduceMul, Nat.reduceSub, Int.reduceEq, Int.reduceLT, Int.reduceLE, Int.reduceNe, Nat.reduceBneDiff, Nat.reduceBEq, decide_false, gt_iff_lt, Bool.or_self, Bool.false_eq_true, Nat.mul_one, Nat.one_mul, Nat.zero_mul, ↓reduceIte, Nat.reduceEqDiff, Nat.reduceLT, Nat.reduceAdd, Nat.reduceLeDiff, reduceCtorEq, goInt, pairs, isConst, TI.isAgg, splice, boxS, Edp, dpv, Nat.beq_eq, ZV.val, List.any_cons, List.any_nil, Bool.false_and, g, hlen, hfit]
  obtain ⟨j, hj, hF⟩ := first_ex (last := last) hK
  refine S_loop (fun m f σ' => ∃ (i : Nat) (x : Int), m + i = j ∧ Pid σ' bp bm x K ∧ x % 65535 = (last + i) % 65535 ∧ Kept σ [bp, bm] σ' [bp, bm]) j (Le.refl _) ⟨0, last, rfl, h, by simp, Kept.refl _ _⟩ ?_
  rintro m f σ1 ⟨i, x, hm, P, hx, k1⟩ hf
  have f0 := hf 0 (by decide) (notMem_wr (by kernel_rfl))
  simp (disch := first | assumption | simp) only [↓sbD, sbU, tyB, Nat.reduceMul, Nat.reduceSub, Int.reduceEq, Int.reduceLT, Int.reduceLE, Int.reduceNe, Nat.reduceBneDiff, Nat.reduceBEq, decide_false, gt_iff_lt, Bool.or_self, Bool.false_eq_true, Nat.mul_one, Nat.one_mul, Nat.zero_mul, ↓reduceIte, Nat.reduceEqDiff, Nat.reduceLT, Nat.reduceAdd, Nat.reduceLeDiff, reduceCtorEq, goInt, pairs, isConst, TI.isAgg, splice, boxS, Edp, dpv, Nat.beq_eq, ZV.val, List.any_cons, List.any_nil, Bool.false_and] at f0
  clear hf
  have g1 := P.gp
  have hr := rem_pos (k := .i64) P.lo (show (0 : Int) < 65535 by omega)
  have hw : IntKind.i64.wrap (x % 65535 + 1) = x % 65535 + 1 := by have := P.hi; exact wrap64 ⟨by omega, by omega⟩
  have hc : cand last i = x % 65535 + 1 := by unfold cand; omega
  simp (disch := first | assumption | simp) only [↓sbD, sbU, tyB, Nat.reduceMul, Nat.reduceSub, Int.reduceEq, Int.reduceLT, Int.reduceLE, Int.reduceNe, Nat.reduceBneDiff, Nat.reduceBEq, decide_false, gt_iff_lt, Bool.or_self, Bool.false_eq_true, Nat.mul_one, Nat.one_mul, Nat.zero_mul, ↓reduceIte, Nat.reduceEqDiff, Nat.reduceLT, Nat.reduceAdd, Nat.reduceLeDiff, reduceCtorEq, goInt, pairs, isConst, TI.isAgg, splice, boxS, Edp, dpv, Nat.beq_eq, ZV.val, List.any_cons, List.any_nil, Bool.false_and, f0, g1, hr, hw, List.length_cons, List.length_nil, List.cons_append, List.nil_append, List.drop_succ_cons, List.drop_zero, List.set_cons_zero, List.set_cons_succ, decide_true]
  generalize hσ2 : AHeap.set σ1 bp _ = σ2
  have g2 : σ2.get bp = .cells [.int .i64 65535, .int .i64 (x % 65535 + 1), .map (some bm)] true 0 := by rw [← hσ2]; exact AHeap.get_set_same _ _ _
  have P2 : Pid σ2 bp bm (x % 65535 + 1) K := ⟨g2, P.mp.keep (by rw [← hσ2]; exact AHeap.get_set_ne _ _ P.ne), by omega, by omega⟩
  have k2 : Kept σ [bp, bm] σ2 [bp, bm] := k1.trans (by rw [← hσ2]; exact Kept.set (by simp))
  clear hσ2
  try simp (disch := first | assumption | simp) only [↓sbD, sbU, tyB, Nat.reduceMul, Nat.reduceSub, Int.reduceEq, Int.reduceLT, Int.reduceLE, Int.reduceNe, Nat.reduceBneDiff, Nat.reduceBEq, decide_false, gt_iff_lt, Bool.or_self, Bool.false_eq_true, Nat.mul_one, Nat.one_mul, Nat.zero_mul, ↓reduceIte, Nat.reduceEqDiff, Nat.reduceLT, Nat.reduceAdd, Nat.reduceLeDiff, reduceCtorEq, goInt, pairs, isConst, TI.isAgg, splice, boxS, Edp, dpv, Nat.beq_eq, ZV.val, List.any_cons, List.any_nil, Bool.false_and, f0, g2]
  refine specPUse P2 (by omega) (by omega) (fun hin => ?_) fun hout o P3 => ?_
  · have hij : i ≠ j := by rintro rfl; rw [← hc] at hin; exact hF.2 hin
    simp (disch := first | assumption | simp) only [↓sbD, sbU, tyB, Nat.reduceMul, Nat.reduceSub, Int.reduceEq, Int.reduceLT, Int.reduceLE, Int.reduceNe, Nat.reduceBneDiff, Nat.reduceBEq, decide_false, gt_iff_lt, Bool.or_self, Bool.false_eq_true, Nat.mul_one, Nat.one_mul, Nat.zero_mul, ↓reduceIte, Nat.reduceEqDiff, Nat.reduceLT, Nat.reduceAdd, Nat.reduceLeDiff, reduceCtorEq, goInt, pairs, isConst, TI.isAgg, splice, boxS, Edp, dpv, Nat.beq_eq, ZV.val, List.any_cons, List.any_nil, Bool.false_and]
    exact ⟨_, m - 1, _, rfl, by omega, Le.refl _, i + 1, x % 65535 + 1, by omega, P2, by omega, k2⟩
  · have he : i = j := by
      by_cases he : i = j
      · exact he
      · have := hF.1 i (by omega); rw [hc] at this; exact (hout this).elim
    subst he
    have g3 := P3.gp
    simp (disch := first | assumption | simp) only [↓sbD, sbU, tyB, Nat.reduceMul, Nat.reduceSub, Int.reduceEq, Int.reduceLT, Int.reduceLE, Int.reduceNe, Nat.reduceBneDiff, Nat.reduceBEq, decide_false, gt_iff_lt, Bool.or_self, Bool.false_eq_true, Nat.mul_one, Nat.one_mul, Nat.zero_mul, ↓reduceIte, Nat.reduceEqDiff, Nat.reduceLT, Nat.reduceAdd, Nat.reduceLeDiff, reduceCtorEq, goInt, pairs, isConst, TI.isAgg, splice, boxS, Edp, dpv, Nat.beq_eq, ZV.val, List.any_cons, List.any_nil, Bool.false_and, f0, g3]
    exact downS_here (hq _ _ ⟨i, hF, hc.symm⟩ P3 (k2.trans (Kept.set (by simp))))
theorem specPFree (h : Pid σ bp bm last K) (hq : ∀ σ', Pid σ' bp bm last (K.erase a) → Kept σ [bm] σ' [bm] → Q (.bool (decide (a ∈ K))) σ') : CallS E B 68 [.pointer (some ⟨bp, 0, none⟩), .int .i64 a] σ Q := by
  have g := h.gp
  refine call68 (by simp) ?_
  simp only [strip, bodyOf, Try.f68, getD_body, keepN, bareOp_mk, lessOp_mk, lapp_cons, lapp_nil, List.map_cons, List.map_nil, array_toList, ↓reduceIte, Nat.reduceEqDiff, Bool.false_eq_true]
  simp (disch := first | assumption | simp) only [↓sbD, sbU, tyB, Nat.reduceMul, Nat.reduceSub, Int.reduceEq, Int.reduceLT, Int.reduceLE, Int.reduceNe, Nat.reduceBneDiff, Nat.reduceBEq, decide_false, gt_iff_lt, Bool.or_self, Bool.false_eq_true, Nat.mul_one, Nat.one_mul, Nat.zero_mul, ↓reduceIte, Nat.reduceEqDiff, Nat.reduceLT, Nat.reduceAdd, Nat.reduceLeDiff, reduceCtorEq, goInt, pairs, isConst, TI.isAgg, splice, boxS, Edp, dpv, Nat.beq_eq, ZV.val, List.any_cons, List.any_nil, Bool.false_and]
  refine specPIs h ?_
  by_cases hh : a ∈ K
  · obtain ⟨σ', hdel, hm2, hs, hkeep⟩ := h.mp.del (E := E) ikeys (t := 105) (x := a) ty105 rfl
    have hb : abuiltin E σ .delete [105, 3] [.map (some bm), .int .i64 a] = some (.tuple #[], σ') := by simp [abuiltin, hdel]
    simp only [hh, decide_true] at hq ⊢
    simp (disch := first | assumption | simp) only [↓sbD, sbU, tyB, Nat.reduceMul, Nat.reduceSub, Int.reduceEq, Int.reduceLT, Int.reduceLE, Int.reduceNe, Nat.reduceBneDiff, Nat.reduceBEq, decide_false, gt_iff_lt, Bool.or_self, Bool.false_eq_true, Nat.mul_one, Nat.one_mul, Nat.zero_mul, ↓reduceIte, Nat.reduceEqDiff, Nat.reduceLT, Nat.reduceAdd, Nat.reduceLeDiff, reduceCtorEq, goInt, pairs, isConst, TI.isAgg, splice, boxS, Edp, dpv, Nat.beq_eq, ZV.val, List.any_cons, List.any_nil, Bool.false_and, g, hb]
    refine downS_here (hq σ' ⟨by rw [hkeep _ h.ne]; exact g, by rw [← kmap_del]; exact hm2, h.lo, h.hi⟩ ⟨fun b _ hn => hkeep b (by simpa using hn), fun _ h => .inl h⟩)
  · simp only [hh, decide_false] at hq ⊢
    simp (disch := first | assumption | simp) only [↓sbD, sbU, tyB, Nat.reduceMul, Nat.reduceSub, Int.reduceEq, Int.reduceLT, Int.reduceLE, Int.reduceNe, Nat.reduceBneDiff, Nat.reduceBEq, decide_false, gt_iff_lt, Bool.or_self, Bool.false_eq_true, Nat.mul_one, Nat.one_mul, Nat.zero_mul, ↓reduceIte, Nat.reduceEqDiff, Nat.reduceLT, Nat.reduceAdd, Nat.reduceLeDiff, reduceCtorEq, goInt, pairs, isConst, TI.isAgg, splice, boxS, Edp, dpv, Nat.beq_eq, ZV.val, List.any_cons, List.any_nil, Bool.false_and]
    rw [List.erase_of_not_mem hh] at hq
    exact downS_here (hq σ h (Kept.refl _ _))
theorem specPNew (hq : ∀ bp bm σ', Pid σ' bp bm 0 [] → Kept σ [] σ' [bp, bm] → Q (.pointer (some ⟨bp, 0, none⟩)) σ') : CallS E B 41 [.int .i64 65535] σ Q := by
  have e1 : (if (65535 : Int) < 65535 then (65535 : Int) else 65535) = 65535 := rfl
  have e2 : (if (0 : Int) < 65535 then (65535 : Int) else 0) = 65535 := rfl
  have nd1 : dp 107 = false := rfl
  refine call41 (by simp) ?_
  simp only [strip, bodyOf, Try.f41, getD_body, keepN, bareOp_mk, lessOp_mk, lapp_cons, lapp_nil, List.map_cons, List.map_nil, array_toList, ↓reduceIte, Nat.reduceEqDiff, Bool.false_eq_true]
  simp (disch := first | assumption | simp) only [↓sbD, sbU, tyB, Nat.reduceMul, Nat.reduceSub, Int.reduceEq, Int.reduceLT, Int.reduceLE, Int.reduceNe, Nat.reduceBneDiff, Nat.reduceBEq, decide_false, gt_iff_lt, Bool.or_self, Bool.false_eq_true, Nat.mul_one, Nat.one_mul, Nat.zero_mul, ↓reduceIte, Nat.reduceEqDiff, Nat.reduceLT, Nat.reduceAdd, Nat.reduceLeDiff, reduceCtorEq, goInt, pairs, isConst, TI.isAgg, splice, boxS, Edp, dpv, Nat.beq_eq, ZV.val, List.any_cons, List.any_nil, Bool.false_and, AS_new, nd1, e1, e2, Int.lt_irrefl]
  intro bm hbm bp hbp
  have hne : bm ≠ bp := by rintro rfl; rw [AHeap.get_set_same] at hbp; cases hbp
  have hbd : σ.get bp = .dead := by rw [AHeap.get_set_ne _ _ hne] at hbp; exact hbp
  refine downS_here (hq bp bm _ ⟨AHeap.get_set_same _ _ _, ⟨[], 0, by rw [AHeap.get_set_ne _ _ hne.symm]; exact AHeap.get_set_same _ _ _, rfl⟩, by omega, by omega⟩ ⟨fun c hc _ => ?_, fun c hc => ?_⟩)
  · rw [AHeap.get_set_ne _ _ (by rintro rfl; exact hc hbd), AHeap.get_set_ne _ _ (by rintro rfl; exact hc hbm)]
  · rcases List.mem_cons.1 hc with rfl | hc
    · exact .inr hbd
    · obtain rfl := List.mem_singleton.1 hc; exact .inr hbm
end
end Go.Proofs.Ytkhcbbpfchgemaa.AbsA
namespace Go.Proofs.Ytkhcbbpfchgemaa.AbsA
open Go AbsYtkhcbbpfchgemaa Abs
open AbsS (msgC)
set_option maxRecDepth 100000
set_option maxHeartbeats 4000000
set_option linter.unusedSimpArgs false
set_option linter.unusedVariables false
/-- a message -/
structure Ms where
  t : ByteArray
  p : ByteArray
  q : Int
  r : Bool
  v : Value
  f : ByteArray
  u : Int
  n : Int
  g : ByteArray
  l : List Pr
  hv : DL propC 4 v l
def msC (m : Ms) : List Value := msgC m.t m.p m.q m.r m.v m.f m.u m.n m.g
theorem msC_len (m : Ms) : (msC m).length = 9 := rfl
theorem Ms.vc (m : Ms) : vcells m.v = [m.v] ∧ oneCell m.v = true := dl_vc m.hv
theorem msC_oc (m : Ms) : (msC m).all oneCell = true := by
  simp only [msC, msgC, List.all_cons, List.all_nil, m.vc.2, Bool.and_true]
  rfl
/-- the same message, its properties copied -/
structure Ms.sim (a b : Ms) : Prop where
  t : a.t = b.t
  p : a.p = b.p
  q : a.q = b.q
  r : a.r = b.r
  f : a.f = b.f
  u : a.u = b.u
  n : a.n = b.n
  g : a.g = b.g
  l : a.l = b.l
theorem Ms.sim.refl (a : Ms) : a.sim a := ⟨rfl, rfl, rfl, rfl, rfl, rfl, rfl, rfl, rfl⟩
theorem Ms.sim.trans {a b c : Ms} (h : a.sim b) (k : b.sim c) : a.sim c := ⟨h.t.trans k.t, h.p.trans k.p, h.q.trans k.q, h.r.trans k.r, h.f.trans k.f, h.u.trans k.u, h.n.trans k.n, h.g.trans k.g, h.l.trans k.l⟩
def Ms.withV (m : Ms) (v : Value) (l : List Pr) (h : DL propC 4 v l) : Ms := { m with v := v, l := l, hv := h }
structure Fl where
  id : Int
  st : Int
  m : Ms
def flC (x : Fl) : List Value := .int .i64 x.id :: .int .i64 x.st :: msC x.m
theorem flC_len (x : Fl) : (flC x).length = 11 := rfl
theorem flC_oc (x : Fl) : (flC x).all oneCell = true := by
  have := msC_oc x.m
  simp only [flC, List.all_cons, this, Bool.and_true]
  rfl
def disj (a b : List Nat) : Prop := ∀ x ∈ a, x ∉ b
section
variable {σ σ' : AHeap} {fp gp gp' : List Nat}
theorem disj.symm {a b : List Nat} (h : disj a b) : disj b a := fun x hx hy => h x hy hx
theorem disj.new {a : List Nat} (h : disj a gp) (ha : ∀ x ∈ a, σ.get x ≠ .dead) (k : Kept σ gp σ' gp') : disj a gp' := fun x hx hy => by
  rcases k.new x hy with h1 | h1
  · exact h x hx h1
  · exact ha x hx h1
theorem Kept.tl {σ2 σ3 : AHeap} {fp2 : List Nat} (K : Kept σ fp σ2 fp2) (k : Kept σ2 [] σ3 []) : Kept σ fp σ3 fp2 := K.trans (k.wid (fun _ h => by cases h) (fun _ h => .inr h))
/-- messages that wait -/
def IsQ (σ : AHeap) (b : Nat) (most : Int) (W : List Ms) (fp : List Nat) : Prop := ∃ v fp0, σ.get b = .cells [.int .i64 most, v] true 0 ∧ GS msC 9 σ v W fp0 ∧ fp = b :: fp0
theorem IsQ.kept {b : Nat} {most : Int} {W : List Ms} (h : IsQ σ b most W fp) (k : Kept σ gp σ' gp') (hd : disj fp gp) : IsQ σ' b most W fp := by
  obtain ⟨v, fp0, h1, h2, rfl⟩ := h
  exact ⟨v, fp0, (k.at h1 (by simp) (hd b (by simp))).1, h2.kept k fun c hc => hd c (by simp [hc]), rfl⟩
theorem IsQ.live {b : Nat} {most : Int} {W : List Ms} (h : IsQ σ b most W fp) : ∀ c ∈ fp, σ.get c ≠ .dead := by
  obtain ⟨v, fp0, h1, h2, rfl⟩ := h
  intro c hc
  rcases List.mem_cons.1 hc with rfl | hc
  · rw [h1]; simp
  · obtain ⟨cs, h3⟩ := h2.live c hc
    rw [h3]; simp
/-- messages under way -/
structure IsO (σ : AHeap) (b : Nat) (F : List Fl) (fp : List Nat) : Prop where
  ex : ∃ (v : Value) (fp0 : List Nat) (bp bm : Nat) (last : Int), σ.get b = .cells [.pointer (some ⟨bp, 0, none⟩), v] true 0 ∧ GS flC 11 σ v F fp0 ∧ Pid σ bp bm last (F.map Fl.id) ∧ b ≠ bp ∧ fp = b :: bp :: bm :: fp0
  nd : (F.map Fl.id).Nodup
  pos : ∀ x ∈ F, 1 ≤ x.id
theorem IsO.kept {b : Nat} {F : List Fl} (h : IsO σ b F fp) (k : Kept σ gp σ' gp') (hd : disj fp gp) : IsO σ' b F fp := by
  obtain ⟨⟨v, fp0, bp, bm, last, h1, h2, h3, h4, rfl⟩, h5, h6⟩ := h
  exact ⟨⟨v, fp0, bp, bm, last, (k.at h1 (by simp) (hd b (by simp))).1, h2.kept k fun c hc => hd c (by simp [hc]), h3.kept k (hd bp (by simp)) (hd bm (by simp)), h4, rfl⟩, h5, h6⟩
theorem IsO.live {b : Nat} {F : List Fl} (h : IsO σ b F fp) : ∀ c ∈ fp, σ.get c ≠ .dead := by
  obtain ⟨⟨v, fp0, bp, bm, last, h1, h2, h3, h4, rfl⟩, h5, h6⟩ := h
  intro c hc
  simp only [List.mem_cons] at hc
  rcases hc with rfl | rfl | rfl | hc
  · rw [h1]; simp
  · rw [h3.gp]; simp
  · obtain ⟨es, clk, g⟩ := h3.gm
    rw [g]; simp
  · obtain ⟨cs, h6⟩ := h2.live c hc
    rw [h6]; simp
end
theorem erase_at {l : List Int} : ∀ {i : Nat} (hi : i < l.length), l.Nodup → l.erase l[i] = l.eraseIdx i := by
  induction l with
  | nil => intro i hi; simp at hi
  | cons a l ih =>
    intro i hi hn
    cases i with
    | zero => simp
    | succ i =>
      have hi' : i < l.length := by simpa using hi
      have hne : ¬ a = l[i] := fun e => by
        have := (List.nodup_cons.1 hn).1
        exact this (e ▸ List.getElem_mem hi')
      rw [List.getElem_cons_succ, List.eraseIdx_cons_succ, List.erase_cons, if_neg (by simpa using hne), ih hi' (List.nodup_cons.1 hn).2]
end Go.Proofs.Ytkhcbbpfchgemaa.AbsA
namespace Go.Proofs.Ytkhcbbpfchgemaa.AbsA
open Go AbsYtkhcbbpfchgemaa Abs
open AbsS (PS WS)
set_option maxRecDepth 100000
set_option maxHeartbeats 4000000
set_option linter.unusedSimpArgs false
set_option linter.unusedVariables false
attribute [local irreducible] afterS afterOpS opSK OpsS TrS CodeS condS condW thenS thenQ guardS guardTS outS drawS trSK consS
section
variable {σ : AHeap} {Q : Value → AHeap → Prop}
theorem eqn_nil {cs : Bool} : abin E σ .eql 32 cs (.slice none 0 0) (.slice none 0 0) = some (.bool true) := by
  simp only [abin, nonNum, eqAsk, aeq, ty32]
  cases cs <;> rfl
theorem eqn_dsl {cs : Bool} {m sz n : Nat} {xs : List Value} : abin E σ .eql 32 cs (dsl m sz n xs) (.slice none 0 0) = some (.bool false) := by
  simp only [abin, nonNum, eqAsk, aeq, ty32]
  cases cs <;> rfl
theorem eqn_sl {cs : Bool} {a : Addr} {n c : Nat} : abin E σ .eql 32 cs (.slice (some a) n c) (.slice none 0 0) = some (.bool false) := by
  simp only [abin, nonNum, eqAsk, aeq, ty32]
  cases cs <;> rfl
theorem bareL_pr (p : Pr) : bareL (propC p) = propC p := rfl
theorem frzL_pr (p : Pr) : frzL E.ng E.nb (propC p) = true := by simp only [propC, frzL, frz_int, frz_str, Bool.and_self]
theorem oc_pr (p : Pr) : (propC p).all oneCell = true := rfl
/-- what stands in properties -/
theorem ps_src {v : Value} {l : List Pr} (h : PS σ v l) : srcCells σ 4 v = some (l.length, l.flatMap propC) := by
  rcases h with ⟨rfl, rfl⟩ | ⟨m, rfl⟩ | ⟨d, ex, c, cs, rfl, g⟩
  · rfl
  · simp only [dsl, srcCells, if_true]; rfl
  · have hl := AbsS.flat_len l
    have hle : 0 + l.length * 4 ≤ (AbsS.flat l ++ cs).length := by rw [List.length_append, hl]; omega
    simp only [srcCells, takeCells, g]
    rw [if_pos hle, List.drop_zero]
    simp only [Option.map_some]
    rw [List.take_left' hl]
    rfl
theorem specCloP {v : Value} {l : List Pr} (hv : PS σ v l) (hs : l.length ≤ 100000) (hq : ∀ v' σ', DL propC 4 v' l → Kept σ [] σ' [] → Q v' σ') : CallS E B 42 [v] σ Q := by
  have hsrc := ps_src hv
  rcases hv with ⟨rfl, rfl⟩ | hv
  · refine call42 (by simp) ?_
    simp only [strip, bodyOf, Try.f42, getD_body, keepN, bareOp_mk, lessOp_mk, lapp_cons, lapp_nil, List.map_cons, List.map_nil, array_toList, ↓reduceIte, Nat.reduceEqDiff, Bool.false_eq_true]
    simp (disch := first | assumption | simp) only [↓sbD, sbU, tyB, Nat.reduceMul, Nat.reduceSub, Int.reduceEq, Int.reduceLT, Int.reduceLE, Int.reduceNe, Nat.reduceBneDiff, Nat.reduceBEq, decide_false, gt_iff_lt, Bool.or_self, Bool.false_eq_true, Nat.mul_one, Nat.one_mul, Nat.zero_mul, ↓reduceIte, Nat.reduceEqDiff, Nat.reduceLT, Nat.reduceAdd, Nat.reduceLeDiff, reduceCtorEq, goInt, pairs, isConst, TI.isAgg, splice, boxS, Edp, dpv, Nat.beq_eq, ZV.val, List.any_cons, List.any_nil, Bool.false_and, eqn_nil]
    exact downS_here (hq _ _ (.inl ⟨rfl, rfl⟩) (Kept.refl _ _))
  have hne : ∀ τ : AHeap, ∀ cs, abin E τ .eql 32 cs v (.slice none 0 0) = some (.bool false) := fun τ cs => by
    rcases hv with ⟨m, rfl⟩ | ⟨d0, ex0, c0, cs0, rfl, g0⟩
    · exact eqn_dsl
    · exact eqn_sl
  refine call42 (by simp) ?_
  simp only [strip, bodyOf, Try.f42, getD_body, keepN, bareOp_mk, lessOp_mk, lapp_cons, lapp_nil, List.map_cons, List.map_nil, array_toList, ↓reduceIte, Nat.reduceEqDiff, Bool.false_eq_true]
  simp (disch := first | assumption | simp) only [↓sbD, sbU, tyB, Nat.reduceMul, Nat.reduceSub, Int.reduceEq, Int.reduceLT, Int.reduceLE, Int.reduceNe, Nat.reduceBneDiff, Nat.reduceBEq, decide_false, gt_iff_lt, Bool.or_self, Bool.false_eq_true, Nat.mul_one, Nat.one_mul, Nat.zero_mul, ↓reduceIte, Nat.reduceEqDiff, Nat.reduceLT, Nat.reduceAdd, Nat.reduceLeDiff, reduceCtorEq, goInt, pairs, isConst, TI.isAgg, splice, boxS, Edp, dpv, Nat.beq_eq, ZV.val, List.any_cons, List.any_nil, Bool.false_and, hne]
  refine AbsA.app_deep (l := []) (xs := l) (fp := []) ty32 ty93 rfl (by decide) (by decide) ty32 rfl rfl bareL_pr frzL_pr oc_pr (.inr ⟨1, rfl, .inl ⟨rfl, rfl⟩⟩) hsrc (by simp only [List.length_nil]; omega) fun σ' v' fp' k dg => ?_
  simp (disch := first | assumption | simp) only [↓sbD, sbU, tyB, Nat.reduceMul, Nat.reduceSub, Int.reduceEq, Int.reduceLT, Int.reduceLE, Int.reduceNe, Nat.reduceBneDiff, Nat.reduceBEq, decide_false, gt_iff_lt, Bool.or_self, Bool.false_eq_true, Nat.mul_one, Nat.one_mul, Nat.zero_mul, ↓reduceIte, Nat.reduceEqDiff, Nat.reduceLT, Nat.reduceAdd, Nat.reduceLeDiff, reduceCtorEq, goInt, pairs, isConst, TI.isAgg, splice, boxS, Edp, dpv, Nat.beq_eq, ZV.val, List.any_cons, List.any_nil, Bool.false_and]
  exact downS_here (hq _ _ dg.dl k.none)
end
end Go.Proofs.Ytkhcbbpfchgemaa.AbsA
namespace Go.Proofs.Ytkhcbbpfchgemaa.AbsN
open Go AbsYtkhcbbpfchgemaa Abs
open AbsA (Pr propC DL DG DG.dl Kept Kept.refl Kept.none dl_vc dead_of)
open AbsS (PS WS)
set_option maxRecDepth 100000
set_option maxHeartbeats 4000000
set_option linter.unusedSimpArgs false
set_option linter.unusedVariables false
attribute [local irreducible] afterS afterOpS opSK OpsS TrS CodeS condS condW thenS thenQ guardS guardTS outS drawS trSK consS
section
variable {σ : AHeap} {Q : Value → AHeap → Prop}
theorem eqn_nil {cs : Bool} : abin E σ .eql 32 cs (.slice none 0 0) (.slice none 0 0) = some (.bool true) := by
  simp only [abin, nonNum, eqAsk, aeq, ty32]
  cases cs <;> rfl
theorem eqn_dsl {cs : Bool} {m sz n : Nat} {xs : List Value} : abin E σ .eql 32 cs (dsl m sz n xs) (.slice none 0 0) = some (.bool false) := by
  simp only [abin, nonNum, eqAsk, aeq, ty32]
  cases cs <;> rfl
theorem eqn_sl {cs : Bool} {a : Addr} {n c : Nat} : abin E σ .eql 32 cs (.slice (some a) n c) (.slice none 0 0) = some (.bool false) := by
  simp only [abin, nonNum, eqAsk, aeq, ty32]
  cases cs <;> rfl
theorem bareL_pr (p : Pr) : bareL (propC p) = propC p := rfl
theorem frzL_pr (p : Pr) : frzL E.ng E.nb (propC p) = true := by simp only [propC, frzL, frz_int, frz_str, Bool.and_self]
theorem oc_pr (p : Pr) : (propC p).all oneCell = true := rfl
/-- what stands in properties -/
theorem ps_src {v : Value} {l : List Pr} (h : PS σ v l) : srcCells σ 4 v = some (l.length, l.flatMap propC) := by
  rcases h with ⟨rfl, rfl⟩ | ⟨m, rfl⟩ | ⟨d, ex, c, cs, rfl, g⟩
  · rfl
  · simp only [dsl, srcCells, if_true]; rfl
  · have hl := AbsS.flat_len l
    have hle : 0 + l.length * 4 ≤ (AbsS.flat l ++ cs).length := by rw [List.length_append, hl]; omega
    simp only [srcCells, takeCells, g]
    rw [if_pos hle, List.drop_zero]
    simp only [Option.map_some]
    rw [List.take_left' hl]
    rfl
theorem specCloP {v : Value} {l : List Pr} (hv : PS σ v l) (hs : l.length ≤ 100000) (hq : ∀ v' σ', DL propC 4 v' l → Kept σ [] σ' [] → Q v' σ') : CallS E B 42 [v] σ Q := by
  have hsrc := ps_src hv
  rcases hv with ⟨rfl, rfl⟩ | hv
  · refine call42 (by simp) ?_
    simp only [strip, bodyOf, Try.f42, getD_body, keepN, bareOp_mk, lessOp_mk, lapp_cons, lapp_nil, List.map_cons, List.map_nil, array_toList, ↓reduceIte, Nat.reduceEqDiff, Bool.false_eq_true]
    simp (disch := first | assumption | simp) only [↓sbD, sbU, tyB, Nat.reduceMul, Nat.reduceSub, Int.reduceEq, Int.reduceLT, Int.reduceLE, Int.reduceNe, Nat.reduceBneDiff, Nat.reduceBEq, decide_false, gt_iff_lt, Bool.or_self, Bool.false_eq_true, Nat.mul_one, Nat.one_mul, Nat.zero_mul, ↓reduceIte, Nat.reduceEqDiff, Nat.reduceLT, Nat.reduceAdd, Nat.reduceLeDiff, reduceCtorEq, goInt, pairs, isConst, TI.isAgg, splice, boxS, Edp, dpv, Nat.beq_eq, ZV.val, List.any_cons, List.any_nil, Bool.false_and, eqn_nil]
    exact downS_here (hq _ _ (.inl ⟨rfl, rfl⟩) (Kept.refl _ _))
  have hne : ∀ τ : AHeap, ∀ cs, abin E τ .eql 32 cs v (.slice none 0 0) = some (.bool false) := fun τ cs => by
    rcases hv with ⟨m, rfl⟩ | ⟨d0, ex0, c0, cs0, rfl, g0⟩
    · exact eqn_dsl
    · exact eqn_sl
  refine call42 (by simp) ?_
  simp only [strip, bodyOf, Try.f42, getD_body, keepN, bareOp_mk, lessOp_mk, lapp_cons, lapp_nil, List.map_cons, List.map_nil, array_toList, ↓reduceIte, Nat.reduceEqDiff, Bool.false_eq_true]
  simp (disch := first | assumption | simp) only [↓sbD, sbU, tyB, Nat.reduceMul, Nat.reduceSub, Int.reduceEq, Int.reduceLT, Int.reduceLE, Int.reduceNe, Nat.reduceBneDiff, Nat.reduceBEq, decide_false, gt_iff_lt, Bool.or_self, Bool.false_eq_true, Nat.mul_one, Nat.one_mul, Nat.zero_mul, ↓reduceIte, Nat.reduceEqDiff, Nat.reduceLT, Nat.reduceAdd, Nat.reduceLeDiff, reduceCtorEq, goInt, pairs, isConst, TI.isAgg, splice, boxS, Edp, dpv, Nat.beq_eq, ZV.val, List.any_cons, List.any_nil, Bool.false_and, hne]
  refine AbsA.app_deep (l := []) (xs := l) (fp := []) ty32 ty93 rfl (by decide) (by decide) ty32 rfl rfl bareL_pr frzL_pr oc_pr (.inr ⟨1, rfl, .inl ⟨rfl, rfl⟩⟩) hsrc (by simp only [List.length_nil]; omega) fun σ' v' fp' k dg => ?_
  simp (disch := first | assumption | simp) only [↓sbD, sbU, tyB, Nat.reduceMul, Nat.reduceSub, Int.reduceEq, Int.reduceLT, Int.reduceLE, Int.reduceNe, Nat.reduceBneDiff, Nat.reduceBEq, decide_false, gt_iff_lt, Bool.or_self, Bool.false_eq_true, Nat.mul_one, Nat.one_mul, Nat.zero_mul, ↓reduceIte, Nat.reduceEqDiff, Nat.reduceLT, Nat.reduceAdd, Nat.reduceLeDiff, reduceCtorEq, goInt, pairs, isConst, TI.isAgg, splice, boxS, Edp, dpv, Nat.beq_eq, ZV.val, List.any_cons, List.any_nil, Bool.false_and]
  exact downS_here (hq _ _ dg.dl k.none)
end
end Go.Proofs.Ytkhcbbpfchgemaa.AbsN
namespace Go.Proofs.Ytkhcbbpfchgemaa.AbsN
open Go AbsYtkhcbbpfchgemaa Abs
open AbsA (Pr propC DL Kept Kept.refl Kept.trans Kept.none Kept.setD Kept.set Kept.new' Kept.wid Kept.at GS Ms msC msC_len msC_oc Ms.vc Ms.withV IsQ disj dl_vc dead_of nd fm_len res_cellc resC_some drawS_l lastP_cc lastP_one)
open AbsS (msgC PS)
set_option maxRecDepth 100000
set_option maxHeartbeats 4000000
set_option linter.unusedSimpArgs false
set_option linter.unusedVariables false
attribute [local irreducible] afterS afterOpS opSK OpsS TrS CodeS condS condW thenS thenQ guardS guardTS outS drawS trSK consS
section
variable {σ : AHeap} {Q : Value → AHeap → Prop} {b : Nat} {most : Int} {W : List Ms} {fp : List Nat}
theorem zeMs : azero E 37 = some [.string ⟨#[]⟩, .string ⟨#[]⟩, .int .i64 0, .bool false, .slice none 0 0, .string ⟨#[]⟩, .int .i64 0, .int .i64 0, .string ⟨#[]⟩] := rfl
theorem nd1 : dp 37 = false ∧ dp 90 = false := ⟨rfl, rfl⟩
theorem ps_dl {v : Value} {l : List Pr} (h : DL propC 4 v l) : PS σ v l := by
  rcases h with h | h
  · exact .inl h
  · exact .inr (.inl h)
theorem specQNew {n : Int} (hq : ∀ b σ', IsQ σ' b n [] [b] → Kept σ [] σ' [b] → Q (.pointer (some ⟨b, 0, none⟩)) σ') : CallS E B 23 [.int .i64 n] σ Q := by
  refine call23 (by simp) ?_
  simp only [strip, bodyOf, Try.f23, getD_body, keepN, bareOp_mk, lessOp_mk, lapp_cons, lapp_nil, List.map_cons, List.map_nil, array_toList, ↓reduceIte, Nat.reduceEqDiff, Bool.false_eq_true]
  simp (disch := first | assumption | simp) only [↓sbD, sbU, tyB, Nat.reduceMul, Nat.reduceSub, Int.reduceEq, Int.reduceLT, Int.reduceLE, Int.reduceNe, Nat.reduceBneDiff, Nat.reduceBEq, decide_false, gt_iff_lt, Bool.or_self, Bool.false_eq_true, Nat.mul_one, Nat.one_mul, Nat.zero_mul, ↓reduceIte, Nat.reduceEqDiff, Nat.reduceLT, Nat.reduceAdd, Nat.reduceLeDiff, reduceCtorEq, goInt, pairs, isConst, TI.isAgg, splice, boxS, Edp, dpv, Nat.beq_eq, ZV.val, List.any_cons, List.any_nil, Bool.false_and, AS_new, nd1.1, nd1.2]
  intro b hb
  try simp (disch := first | assumption | simp) only [↓sbD, sbU, tyB, Nat.reduceMul, Nat.reduceSub, Int.reduceEq, Int.reduceLT, Int.reduceLE, Int.reduceNe, Nat.reduceBneDiff, Nat.reduceBEq, decide_false, gt_iff_lt, Bool.or_self, Bool.false_eq_true, Nat.mul_one, Nat.one_mul, Nat.zero_mul, ↓reduceIte, Nat.reduceEqDiff, Nat.reduceLT, Nat.reduceAdd, Nat.reduceLeDiff, reduceCtorEq, goInt, pairs, isConst, TI.isAgg, splice, boxS, Edp, dpv, Nat.beq_eq, ZV.val, List.any_cons, List.any_nil, Bool.false_and]
  exact downS_here (hq b _ ⟨_, [], AHeap.get_set_same _ _ _, AbsA.GS.nil, rfl⟩ (Kept.new' hb))
theorem specQLen (hw : IsQ σ b most W fp) (hq : Q (.int .i64 (W.length : Int)) σ) : CallS E B 49 [.pointer (some ⟨b, 0, none⟩)] σ Q := by
  obtain ⟨v, fp0, gb, gs, rfl⟩ := hw
  have hl := fun τ : AHeap => gs.len (E := E) (τ := τ) ty22
  refine call49 (by simp) ?_
  simp only [strip, bodyOf, Try.f49, getD_body, keepN, bareOp_mk, lessOp_mk, lapp_cons, lapp_nil, List.map_cons, List.map_nil, array_toList, ↓reduceIte, Nat.reduceEqDiff, Bool.false_eq_true]
  simp (disch := first | assumption | simp) only [↓sbD, sbU, tyB, Nat.reduceMul, Nat.reduceSub, Int.reduceEq, Int.reduceLT, Int.reduceLE, Int.reduceNe, Nat.reduceBneDiff, Nat.reduceBEq, decide_false, gt_iff_lt, Bool.or_self, Bool.false_eq_true, Nat.mul_one, Nat.one_mul, Nat.zero_mul, ↓reduceIte, Nat.reduceEqDiff, Nat.reduceLT, Nat.reduceAdd, Nat.reduceLeDiff, reduceCtorEq, goInt, pairs, isConst, TI.isAgg, splice, boxS, Edp, dpv, Nat.beq_eq, ZV.val, List.any_cons, List.any_nil, Bool.false_and, gb, hl]
  exact downS_here hq
theorem specCome {m : Ms} {now : Int} (hu : m.u ≤ 0) (hq : ∀ σ', Kept σ [] σ' [] → Q (.bool false) σ') : CallS E B 50 [.agg ⟨msC m⟩, .int .i64 now] σ Q := by
  have hvc := m.vc
  have h1 : ¬ 0 < m.u := by omega
  simp only [msC, msgC]
  refine call50 (by simp) ?_
  simp only [strip, bodyOf, Try.f50, getD_body, keepN, bareOp_mk, lessOp_mk, lapp_cons, lapp_nil, List.map_cons, List.map_nil, array_toList, ↓reduceIte, Nat.reduceEqDiff, Bool.false_eq_true]
  simp (disch := first | assumption | simp) only [↓sbD, sbU, tyB, Nat.reduceMul, Nat.reduceSub, Int.reduceEq, Int.reduceLT, Int.reduceLE, Int.reduceNe, Nat.reduceBneDiff, Nat.reduceBEq, decide_false, gt_iff_lt, Bool.or_self, Bool.false_eq_true, Nat.mul_one, Nat.one_mul, Nat.zero_mul, ↓reduceIte, Nat.reduceEqDiff, Nat.reduceLT, Nat.reduceAdd, Nat.reduceLeDiff, reduceCtorEq, goInt, pairs, isConst, TI.isAgg, splice, boxS, Edp, dpv, Nat.beq_eq, ZV.val, List.any_cons, List.any_nil, Bool.false_and, AS_new, nd1.1, hvc.1, hvc.2]
  intro c hc
  try simp (disch := first | assumption | simp) only [↓sbD, sbU, tyB, Nat.reduceMul, Nat.reduceSub, Int.reduceEq, Int.reduceLT, Int.reduceLE, Int.reduceNe, Nat.reduceBneDiff, Nat.reduceBEq, decide_false, gt_iff_lt, Bool.or_self, Bool.false_eq_true, Nat.mul_one, Nat.one_mul, Nat.zero_mul, ↓reduceIte, Nat.reduceEqDiff, Nat.reduceLT, Nat.reduceAdd, Nat.reduceLeDiff, reduceCtorEq, goInt, pairs, isConst, TI.isAgg, splice, boxS, Edp, dpv, Nat.beq_eq, ZV.val, List.any_cons, List.any_nil, Bool.false_and, AHeap.get_set_same, h1]
  exact downS_here (hq _ ((Kept.refl σ []).setD hc))
theorem specComeB {m : Ms} {now : Int} (hq : ∀ σ' c, Kept σ [] σ' [] → Q (.bool c) σ') : CallS E B 50 [.agg ⟨msC m⟩, .int .i64 now] σ Q := by
  have hvc := m.vc
  simp only [msC, msgC]
  refine call50 (by simp) ?_
  simp only [strip, bodyOf, Try.f50, getD_body, keepN, bareOp_mk, lessOp_mk, lapp_cons, lapp_nil, List.map_cons, List.map_nil, array_toList, ↓reduceIte, Nat.reduceEqDiff, Bool.false_eq_true]
  simp (disch := first | assumption | simp) only [↓sbD, sbU, tyB, Nat.reduceMul, Nat.reduceSub, Int.reduceEq, Int.reduceLT, Int.reduceLE, Int.reduceNe, Nat.reduceBneDiff, Nat.reduceBEq, decide_false, gt_iff_lt, Bool.or_self, Bool.false_eq_true, Nat.mul_one, Nat.one_mul, Nat.zero_mul, ↓reduceIte, Nat.reduceEqDiff, Nat.reduceLT, Nat.reduceAdd, Nat.reduceLeDiff, reduceCtorEq, goInt, pairs, isConst, TI.isAgg, splice, boxS, Edp, dpv, Nat.beq_eq, ZV.val, List.any_cons, List.any_nil, Bool.false_and, AS_new, nd1.1, hvc.1, hvc.2]
  intro c hc
  by_cases h1 : 0 < m.u
  · by_cases h2 : m.u ≤ now
    · simp (disch := first | assumption | simp) only [↓sbD, sbU, tyB, Nat.reduceMul, Nat.reduceSub, Int.reduceEq, Int.reduceLT, Int.reduceLE, Int.reduceNe, Nat.reduceBneDiff, Nat.reduceBEq, decide_false, gt_iff_lt, Bool.or_self, Bool.false_eq_true, Nat.mul_one, Nat.one_mul, Nat.zero_mul, ↓reduceIte, Nat.reduceEqDiff, Nat.reduceLT, Nat.reduceAdd, Nat.reduceLeDiff, reduceCtorEq, goInt, pairs, isConst, TI.isAgg, splice, boxS, Edp, dpv, Nat.beq_eq, ZV.val, List.any_cons, List.any_nil, Bool.false_and, AHeap.get_set_same, h1, h2]
      exact downS_here (hq _ _ ((Kept.refl σ []).setD hc))
    · simp (disch := first | assumption | simp) only [↓sbD, sbU, tyB, Nat.reduceMul, Nat.reduceSub, Int.reduceEq, Int.reduceLT, Int.reduceLE, Int.reduceNe, Nat.reduceBneDiff, Nat.reduceBEq, decide_false, gt_iff_lt, Bool.or_self, Bool.false_eq_true, Nat.mul_one, Nat.one_mul, Nat.zero_mul, ↓reduceIte, Nat.reduceEqDiff, Nat.reduceLT, Nat.reduceAdd, Nat.reduceLeDiff, reduceCtorEq, goInt, pairs, isConst, TI.isAgg, splice, boxS, Edp, dpv, Nat.beq_eq, ZV.val, List.any_cons, List.any_nil, Bool.false_and, AHeap.get_set_same, h1, h2]
      exact downS_here (hq _ _ ((Kept.refl σ []).setD hc))
  · simp (disch := first | assumption | simp) only [↓sbD, sbU, tyB, Nat.reduceMul, Nat.reduceSub, Int.reduceEq, Int.reduceLT, Int.reduceLE, Int.reduceNe, Nat.reduceBneDiff, Nat.reduceBEq, decide_false, gt_iff_lt, Bool.or_self, Bool.false_eq_true, Nat.mul_one, Nat.one_mul, Nat.zero_mul, ↓reduceIte, Nat.reduceEqDiff, Nat.reduceLT, Nat.reduceAdd, Nat.reduceLeDiff, reduceCtorEq, goInt, pairs, isConst, TI.isAgg, splice, boxS, Edp, dpv, Nat.beq_eq, ZV.val, List.any_cons, List.any_nil, Bool.false_and, AHeap.get_set_same, h1]
    exact downS_here (hq _ _ ((Kept.refl σ []).setD hc))
/-- one element, to be appended -/
theorem bs_ms {m : Ms} {K : Value → AHeap → Prop} (hq : ∀ d, σ.get d = .dead → K (.slice (some ⟨d, 0, some 1⟩) 1 1) (σ.set d (.cells (msC m) true 9))) : afterOpS E B (some (bsS E σ 22 1 [(0, .agg ⟨msC m⟩)])) σ K := by
  have hvc := m.vc
  simp only [msC, msgC] at hq ⊢
  simp (disch := first | assumption | simp) only [↓sbD, sbU, tyB, Nat.reduceMul, Nat.reduceSub, Int.reduceEq, Int.reduceLT, Int.reduceLE, Int.reduceNe, Nat.reduceBneDiff, Nat.reduceBEq, decide_false, gt_iff_lt, Bool.or_self, Bool.false_eq_true, Nat.mul_one, Nat.one_mul, Nat.zero_mul, ↓reduceIte, Nat.reduceEqDiff, Nat.reduceLT, Nat.reduceAdd, Nat.reduceLeDiff, reduceCtorEq, goInt, pairs, isConst, TI.isAgg, splice, boxS, Edp, dpv, Nat.beq_eq, ZV.val, List.any_cons, List.any_nil, Bool.false_and, AS_any, hvc.1, hvc.2]
  intro d hd
  exact ⟨_, _, rfl, hq d (dead_of hd)⟩
theorem src_one {d : Nat} {m : Ms} (g : σ.get d = .cells (msC m) true 9) : srcCells σ 9 (.slice (some ⟨d, 0, some 1⟩) 1 1) = some ([m].length, [m].flatMap msC) := by
  simp only [srcCells, takeCells, g]
  rfl
theorem specQPush {m : Ms} (hw : IsQ σ b most W fp) (hz : W.length ≤ 100000) (hl : m.l.length ≤ 100000)
    (hfull : most ≤ (W.length : Int) → ∀ σ', Kept σ [] σ' [] → Q (.bool false) σ')
    (hok : (W.length : Int) < most → ∀ v h σ' fp', IsQ σ' b most (W ++ [m.withV v m.l h]) fp' → Kept σ fp σ' fp' → Q (.bool true) σ') :
    CallS E B 28 [.pointer (some ⟨b, 0, none⟩), .agg ⟨msC m⟩] σ Q := by
  have hw0 := hw
  obtain ⟨v, fp0, gb, gs, rfl⟩ := hw
  have hlen := fun τ : AHeap => gs.len (E := E) (τ := τ) ty22
  have hvc := m.vc
  have gvc := gs.vc
  have hmc : msC m = [.string m.t, .string m.p, .int .i64 m.q, .bool m.r, m.v, .string m.f, .int .i64 m.u, .int .i64 m.n, .string m.g] := rfl
  simp only [hmc]
  refine call28 (by simp) ?_
  simp only [strip, bodyOf, Try.f28, getD_body, keepN, bareOp_mk, lessOp_mk, lapp_cons, lapp_nil, List.map_cons, List.map_nil, array_toList, ↓reduceIte, Nat.reduceEqDiff, Bool.false_eq_true]
  simp (disch := first | assumption | simp) only [↓sbD, sbU, tyB, Nat.reduceMul, Nat.reduceSub, Int.reduceEq, Int.reduceLT, Int.reduceLE, Int.reduceNe, Nat.reduceBneDiff, Nat.reduceBEq, decide_false, gt_iff_lt, Bool.or_self, Bool.false_eq_true, Nat.mul_one, Nat.one_mul, Nat.zero_mul, ↓reduceIte, Nat.reduceEqDiff, Nat.reduceLT, Nat.reduceAdd, Nat.reduceLeDiff, reduceCtorEq, goInt, pairs, isConst, TI.isAgg, splice, boxS, Edp, dpv, Nat.beq_eq, ZV.val, List.any_cons, List.any_nil, Bool.false_and, AS_new, nd1.1, hvc.1, hvc.2]
  intro c hc
  have hcb : c ≠ b := by rintro rfl; rw [gb] at hc; cases hc
  generalize hσ1 : AHeap.set σ c _ = σ1
  have k1 : Kept σ [] σ1 [] := by rw [← hσ1]; exact (Kept.refl σ []).setD hc
  have gb1 := (k1.at gb (by simp) (by simp)).1
  have gc1 : σ1.get c = .cells [.string m.t, .string m.p, .int .i64 m.q, .bool m.r, m.v, .string m.f, .int .i64 m.u, .int .i64 m.n, .string m.g] true 0 := by rw [← hσ1]; exact AHeap.get_set_same _ _ _
  clear hσ1
  by_cases hf : most ≤ (W.length : Int)
  · simp (disch := first | assumption | simp) only [↓sbD, sbU, tyB, Nat.reduceMul, Nat.reduceSub, Int.reduceEq, Int.reduceLT, Int.reduceLE, Int.reduceNe, Nat.reduceBneDiff, Nat.reduceBEq, decide_false, gt_iff_lt, Bool.or_self, Bool.false_eq_true, Nat.mul_one, Nat.one_mul, Nat.zero_mul, ↓reduceIte, Nat.reduceEqDiff, Nat.reduceLT, Nat.reduceAdd, Nat.reduceLeDiff, reduceCtorEq, goInt, pairs, isConst, TI.isAgg, splice, boxS, Edp, dpv, Nat.beq_eq, ZV.val, List.any_cons, List.any_nil, Bool.false_and, gb1, hlen, hf]
    exact downS_here (hfull hf _ k1)
  simp (disch := first | assumption | simp) only [↓sbD, sbU, tyB, Nat.reduceMul, Nat.reduceSub, Int.reduceEq, Int.reduceLT, Int.reduceLE, Int.reduceNe, Nat.reduceBneDiff, Nat.reduceBEq, decide_false, gt_iff_lt, Bool.or_self, Bool.false_eq_true, Nat.mul_one, Nat.one_mul, Nat.zero_mul, ↓reduceIte, Nat.reduceEqDiff, Nat.reduceLT, Nat.reduceAdd, Nat.reduceLeDiff, reduceCtorEq, goInt, pairs, isConst, TI.isAgg, splice, boxS, Edp, dpv, Nat.beq_eq, ZV.val, List.any_cons, List.any_nil, Bool.false_and, gb1, hlen, hf, gc1]
  refine specCloP (ps_dl m.hv) hl fun v2 σ2 hv2 k2 => ?_
  have gb2 := (k2.at gb1 (by simp) (by simp)).1
  have gc2 := (k2.at gc1 (by simp) (by simp)).1
  have hvc2 := dl_vc hv2
  simp (disch := first | assumption | simp) only [↓sbD, sbU, tyB, Nat.reduceMul, Nat.reduceSub, Int.reduceEq, Int.reduceLT, Int.reduceLE, Int.reduceNe, Nat.reduceBneDiff, Nat.reduceBEq, decide_false, gt_iff_lt, Bool.or_self, Bool.false_eq_true, Nat.mul_one, Nat.one_mul, Nat.zero_mul, ↓reduceIte, Nat.reduceEqDiff, Nat.reduceLT, Nat.reduceAdd, Nat.reduceLeDiff, reduceCtorEq, goInt, pairs, isConst, TI.isAgg, splice, boxS, Edp, dpv, Nat.beq_eq, ZV.val, List.any_cons, List.any_nil, Bool.false_and, gc2, hvc2.1, hvc2.2, List.length_cons, List.length_nil, List.cons_append, List.nil_append, List.drop_succ_cons, List.drop_zero, List.set_cons_zero, List.set_cons_succ, decide_true]
  generalize hσ3 : AHeap.set σ2 c _ = σ3
  have K3 : Kept σ [] σ3 [] := by rw [← hσ3]; exact (k1.trans k2).setD hc
  have gb3 := (K3.at gb (by simp) (by simp)).1
  have gc3 : σ3.get c = .cells [.string m.t, .string m.p, .int .i64 m.q, .bool m.r, v2, .string m.f, .int .i64 m.u, .int .i64 m.n, .string m.g] true 0 := by rw [← hσ3]; exact AHeap.get_set_same _ _ _
  clear hσ3
  simp (disch := first | assumption | simp) only [↓sbD, sbU, tyB, Nat.reduceMul, Nat.reduceSub, Int.reduceEq, Int.reduceLT, Int.reduceLE, Int.reduceNe, Nat.reduceBneDiff, Nat.reduceBEq, decide_false, gt_iff_lt, Bool.or_self, Bool.false_eq_true, Nat.mul_one, Nat.one_mul, Nat.zero_mul, ↓reduceIte, Nat.reduceEqDiff, Nat.reduceLT, Nat.reduceAdd, Nat.reduceLeDiff, reduceCtorEq, goInt, pairs, isConst, TI.isAgg, splice, boxS, Edp, dpv, Nat.beq_eq, ZV.val, List.any_cons, List.any_nil, Bool.false_and, gb3, gc3]
  refine bs_ms (m := m.withV v2 m.l hv2) fun d hd => ?_
  generalize hm : m.withV v2 m.l hv2 = m2
  generalize hσ4 : AHeap.set σ3 d _ = σ4
  have k4 : Kept σ3 [] σ4 [] := by rw [← hσ4]; exact (Kept.refl _ []).setD hd
  have gd4 : σ4.get d = .cells (msC m2) true 9 := by rw [← hσ4]; exact AHeap.get_set_same _ _ _
  have K4 := K3.trans k4
  have gs4 : GS msC 9 σ4 v W fp0 := gs.kept K4 (fun _ _ h => by cases h)
  have gb4 := (K4.at gb (by simp) (by simp)).1
  have hbf : b ∉ fp0 := gs.off gb (by decide)
  clear hσ4
  try simp (disch := first | assumption | simp) only [↓sbD, sbU, tyB, Nat.reduceMul, Nat.reduceSub, Int.reduceEq, Int.reduceLT, Int.reduceLE, Int.reduceNe, Nat.reduceBneDiff, Nat.reduceBEq, decide_false, gt_iff_lt, Bool.or_self, Bool.false_eq_true, Nat.mul_one, Nat.one_mul, Nat.zero_mul, ↓reduceIte, Nat.reduceEqDiff, Nat.reduceLT, Nat.reduceAdd, Nat.reduceLeDiff, reduceCtorEq, goInt, pairs, isConst, TI.isAgg, splice, boxS, Edp, dpv, Nat.beq_eq, ZV.val, List.any_cons, List.any_nil, Bool.false_and]
  refine gs4.app (xs := [m2]) ty22 ty37 rfl (by decide) (by decide) ty22 rfl rfl msC_len msC_oc (src_one gd4) (by simp only [List.length_cons, List.length_nil]; omega) (.inl rfl) fun σ5 v5 fp5 k5 gs5 => ?_
  have gb5 := (k5.at gb4 (by simp) hbf).1
  have hbf5 : b ∉ fp5 := gs5.off gb5 (by decide)
  have gv5 := gs5.vc
  simp (disch := first | assumption | simp) only [↓sbD, sbU, tyB, Nat.reduceMul, Nat.reduceSub, Int.reduceEq, Int.reduceLT, Int.reduceLE, Int.reduceNe, Nat.reduceBneDiff, Nat.reduceBEq, decide_false, gt_iff_lt, Bool.or_self, Bool.false_eq_true, Nat.mul_one, Nat.one_mul, Nat.zero_mul, ↓reduceIte, Nat.reduceEqDiff, Nat.reduceLT, Nat.reduceAdd, Nat.reduceLeDiff, reduceCtorEq, goInt, pairs, isConst, TI.isAgg, splice, boxS, Edp, dpv, Nat.beq_eq, ZV.val, List.any_cons, List.any_nil, Bool.false_and, gb5, gv5.1, gv5.2, List.length_cons, List.length_nil, List.cons_append, List.nil_append, List.drop_succ_cons, List.drop_zero, List.set_cons_zero, List.set_cons_succ, decide_true]
  generalize hσ6 : AHeap.set σ5 b _ = σ6
  have gb6 : σ6.get b = .cells [.int .i64 most, v5] true 0 := by rw [← hσ6]; exact AHeap.get_set_same _ _ _
  have k6 : Kept σ5 [b] σ6 [b] := by rw [← hσ6]; exact Kept.set (by simp)
  clear hσ6
  try simp (disch := first | assumption | simp) only [↓sbD, sbU, tyB, Nat.reduceMul, Nat.reduceSub, Int.reduceEq, Int.reduceLT, Int.reduceLE, Int.reduceNe, Nat.reduceBneDiff, Nat.reduceBEq, decide_false, gt_iff_lt, Bool.or_self, Bool.false_eq_true, Nat.mul_one, Nat.one_mul, Nat.zero_mul, ↓reduceIte, Nat.reduceEqDiff, Nat.reduceLT, Nat.reduceAdd, Nat.reduceLeDiff, reduceCtorEq, goInt, pairs, isConst, TI.isAgg, splice, boxS, Edp, dpv, Nat.beq_eq, ZV.val, List.any_cons, List.any_nil, Bool.false_and]
  subst hm
  refine downS_here (hok (by omega) v2 hv2 σ6 (b :: fp5) ⟨v5, fp5, gb6, gs5.kept k6 (fun x hx => by rintro h; obtain rfl := List.mem_singleton.1 h; exact hbf5 hx), rfl⟩ ?_)
  exact ((K4.wid (gp := b :: fp0) (gp' := b :: fp0) (fun _ h => by cases h) (fun x h => .inr h)).trans (k5.wid (gp := b :: fp0) (gp' := b :: fp5) (fun x h => List.mem_cons_of_mem _ h) (fun x h => by rcases List.mem_cons.1 h with rfl | h; exact .inr (by simp); exact .inl h))).trans (k6.wid (gp := b :: fp5) (gp' := b :: fp5) (fun x h => by obtain rfl := List.mem_singleton.1 h; simp) (fun x h => .inr h))
end
end Go.Proofs.Ytkhcbbpfchgemaa.AbsN
