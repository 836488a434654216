/-
  A part of a law's proof.
-/
import Derived.Test.YtlmcjfnignbdoaaAOa
namespace Go.Proofs.Ytlmcjfnignbdoaa.Abs
open Go AbsYtlmcjfnignbdoaa
set_option maxRecDepth 100000
set_option maxHeartbeats 2000000
set_option linter.unusedSimpArgs false
set_option linter.unusedVariables false
/-! ### the next free number -/
def cand (last : Int) (j : Nat) : Int := (last + j) % 65535 + 1
def First (last : Int) (K : List Int) (j : Nat) : Prop := (∀ i, i < j → cand last i ∈ K) ∧ cand last j ∉ K
def NextIs (last : Int) (K : List Int) (c : Int) : Prop := ∃ j, First last K j ∧ c = cand last j
theorem First.uniq {last : Int} {K : List Int} {i j : Nat} (h : First last K i) (k : First last K j) : i = j := by
  rcases Nat.lt_trichotomy i j with hl | he | hl
  · exact (h.2 (k.1 i hl)).elim
  · exact he
  · exact (k.2 (h.1 j hl)).elim
theorem NextIs.uniq {last : Int} {K : List Int} {c d : Int} (h : NextIs last K c) (k : NextIs last K d) : c = d := by
  obtain ⟨i, h1, rfl⟩ := h; obtain ⟨j, k1, rfl⟩ := k
  rw [h1.uniq k1]
theorem some_free {last : Int} : ∀ (k : Nat) (K : List Int), K.length ≤ k → k < 65535 → ∃ i, i ≤ k ∧ cand last i ∉ K
  | 0, K, h, _ => ⟨0, Nat.le_refl _, by rw [List.eq_nil_of_length_eq_zero (by omega : K.length = 0)]; simp⟩
  | k + 1, K, h, hk => by
    by_cases hc : cand last (k + 1) ∈ K
    · obtain ⟨i, hi, hn⟩ := some_free (last := last) k (K.erase (cand last (k + 1))) (by rw [List.length_erase_of_mem hc]; omega) (by omega)
      refine ⟨i, by omega, fun hm => hn ((List.mem_erase_of_ne ?_).2 hm)⟩
      unfold cand; omega
    · exact ⟨k + 1, Nat.le_refl _, hc⟩
theorem least_free {last : Int} {K : List Int} : ∀ n, (∃ i, i ≤ n ∧ cand last i ∉ K) → ∃ j, j ≤ n ∧ First last K j
  | 0, ⟨i, hi, h⟩ => ⟨0, Nat.le_refl _, fun i hi => by omega, by rw [show (0 : Nat) = i by omega]; exact h⟩
  | n + 1, ⟨i, hi, h⟩ => by
    by_cases hx : ∃ i, i ≤ n ∧ cand last i ∉ K
    · obtain ⟨j, hj, hf⟩ := least_free n hx
      exact ⟨j, by omega, hf⟩
    · have hi' : i = n + 1 := by
        by_cases hlt : i ≤ n
        · exact (hx ⟨i, hlt, h⟩).elim
        · omega
      refine ⟨n + 1, Nat.le_refl _, fun k hk => ?_, hi' ▸ h⟩
      by_cases hm : cand last k ∈ K
      · exact hm
      · exact (hx ⟨k, by omega, hm⟩).elim
theorem first_ex {last : Int} {K : List Int} (h : K.length ≤ 100) : ∃ j, j ≤ 100 ∧ First last K j := least_free 100 (some_free 100 K h (by omega))
theorem cand_lo {last : Int} {j : Nat} : 1 ≤ cand last j := by unfold cand; omega
theorem cand_hi {last : Int} {j : Nat} : cand last j ≤ 65535 := by unfold cand; omega
/-! ### numbers in use -/
def kmap (K : List Int) : List (Int × Value) := K.map fun a => (a, .bool true)
theorem kmap_lkp (K : List Int) (a : Int) : lkp (kmap K) a = if a ∈ K then some (.bool true) else none := by
  induction K with
  | nil => rfl
  | cons b K ih =>
    show (if b = a then some (.bool true) else lkp (kmap K) a) = _
    by_cases h : b = a
    · rw [if_pos h, if_pos (by simp [h])]
    · rw [if_neg h, ih]
      by_cases hk : a ∈ K
      · rw [if_pos hk, if_pos (by simp [hk])]
      · rw [if_neg hk, if_neg (by simp [hk, Ne.symm h])]
theorem kmap_del (K : List Int) (a : Int) : mdel (kmap K) a = kmap (K.erase a) := by
  induction K with
  | nil => rfl
  | cons b K ih =>
    show (if b = a then kmap K else (b, .bool true) :: mdel (kmap K) a) = _
    rw [List.erase_cons]
    by_cases h : b = a
    · rw [if_pos h, if_pos (by simp [h])]
    · rw [if_neg h, if_neg (by simp [h]), ih]; rfl
theorem kmap_put {K : List Int} {a : Int} (h : a ∉ K) : mput (kmap K) a (.bool true) = kmap (K ++ [a]) := by
  rw [mput_new (by rw [kmap_lkp, if_neg h])]; simp [kmap]
theorem kmap_len (K : List Int) : (kmap K).length = K.length := by simp [kmap]
structure Pid (H : AHeap) (bp bm : Nat) (last : Int) (K : List Int) : Prop where
  gp : H.get bp = .cells [.int .i64 65535, .int .i64 last, .map (some bm)] true 0
  mp : MapIs ik H bm (kmap K)
  lo : 0 ≤ last
  hi : last ≤ 65535
  lt : bp < H.size ∧ bm < H.size
theorem Pid.keep {H H' : AHeap} {bp bm : Nat} {last : Int} {K : List Int} (h : Pid H bp bm last K) (hs : H.size ≤ H'.size) (h1 : H'.get bp = H.get bp) (h2 : H'.get bm = H.get bm) : Pid H' bp bm last K := by
  obtain ⟨g, m, lo, hi, lt⟩ := h
  exact ⟨by rw [h1]; exact g, m.keep h2, lo, hi, by omega, by omega⟩
theorem Pid.ne {H : AHeap} {bp bm : Nat} {last : Int} {K : List Int} (h : Pid H bp bm last K) : bp ≠ bm := by
  rintro rfl
  obtain ⟨es, clk, h1, _⟩ := h.mp
  rw [h.gp] at h1; cases h1
abbrev ptr (b : Nat) : Value := .pointer (some ⟨b, 0, none⟩)
theorem spec70 {H : AHeap} {bp bm : Nat} {last a : Int} {K : List Int} (h : Pid H bp bm last K) : CallW E 70 [ptr bp, .int .i64 a] H fun r H' => r = .bool (decide (a ∈ K)) ∧ H' = H := by
  refine call70 (by simp) ?_
  simp only [strip, bodyOf, Try.f70, getD_body, keepN, bareOp_mk, lessOp_mk, lapp_cons, lapp_nil, List.map_cons, List.map_nil, array_toList, ↓reduceIte, Nat.reduceEqDiff, Bool.false_eq_true]
  have hm := h.mp
  have hlook := hm.look (E := E) ikeys (t := 93) (x := a) (zv := .bool false) ty93 rfl rfl false
  have hv : luRes false ((lkp (kmap K) a).getD (.bool false)) (lkp (kmap K) a).isSome = .bool (decide (a ∈ K)) := by
    rw [kmap_lkp]; by_cases hh : a ∈ K <;> simp [hh, luRes]
  rw [hv] at hlook
  have m2 : ([.int .i64 65535, .int .i64 last, .map (some bm)] : List Value)[2]? = some (.map (some bm)) := rfl
  simp (disch := first | assumption | simp) only [↓wbD, wbU, ↓aop, ↓reduceIte, Nat.reduceEqDiff, Nat.reduceLT, reduceCtorEq, goInt, pairs, nil_ptr_neq ty49 rfl, Option.isSome_some, fa95_2, Nat.zero_add, ld_cell ty93 rfl h.gp, m2, hlook]
theorem spec64 {H : AHeap} {bp bm : Nat} {last a : Int} {K : List Int} (h : Pid H bp bm last K) (h1 : 1 ≤ a) (h2 : a ≤ 65535) : CallW E 64 [ptr bp, .int .i64 a] H fun r H' => (a ∈ K → r = .bool false ∧ H' = H) ∧ (a ∉ K → r = .bool true ∧ Pid H' bp bm last (K ++ [a]) ∧ ∃ o, H' = H.set bm o) := by
  refine call64 (by simp) ?_
  simp only [strip, bodyOf, Try.f64, getD_body, keepN, bareOp_mk, lessOp_mk, lapp_cons, lapp_nil, List.map_cons, List.map_nil, array_toList, ↓reduceIte, Nat.reduceEqDiff, Bool.false_eq_true]
  have hm := h.mp
  have hlook := hm.look (E := E) ikeys (t := 93) (x := a) (zv := .bool false) ty93 rfl rfl false
  have hv : luRes false ((lkp (kmap K) a).getD (.bool false)) (lkp (kmap K) a).isSome = .bool (decide (a ∈ K)) := by
    rw [kmap_lkp]; by_cases hh : a ∈ K <;> simp [hh, luRes]
  rw [hv] at hlook
  obtain ⟨o, hput, hm2⟩ := hm.put (E := E) ikeys (t := 93) (x := a) ty93 rfl (.bool true)
  have m0 : ([.int .i64 65535, .int .i64 last, .map (some bm)] : List Value)[0]? = some (.int .i64 65535) := rfl
  have m2 : ([.int .i64 65535, .int .i64 last, .map (some bm)] : List Value)[2]? = some (.map (some bm)) := rfl
  have n1 : ¬ a < 1 := by omega
  have n2 : ¬ (65535 : Int) < a := by omega
  by_cases hh : a ∈ K
  · simp (disch := first | assumption | simp) only [↓wbD, wbU, ↓aop, ↓reduceIte, Nat.reduceEqDiff, Nat.reduceLT, reduceCtorEq, goInt, pairs, nil_ptr ty49 rfl, Option.isNone_some, n1, n2, decide_false, fa95_0, fa95_2, Nat.zero_add, ld_cell ty93 rfl h.gp, ld_cell ty3 rfl h.gp, m0, m2, hlook, hh, decide_true]
    exact ⟨fun _ => trivial, fun hn => hn.elim⟩
  · simp (disch := first | assumption | simp) only [↓wbD, wbU, ↓aop, ↓reduceIte, Nat.reduceEqDiff, Nat.reduceLT, reduceCtorEq, goInt, pairs, nil_ptr ty49 rfl, Option.isNone_some, n1, n2, decide_false, fa95_0, fa95_2, Nat.zero_add, ld_cell ty93 rfl h.gp, ld_cell ty3 rfl h.gp, m0, m2, hlook, hh, hput]
    refine ⟨fun hn => hn.elim, fun _ => ⟨⟨?_, ?_, h.lo, h.hi, by rw [AHeap.size_set]; exact h.lt.1, by rw [AHeap.size_set]; exact h.lt.2⟩, o, rfl⟩⟩
    · rw [AHeap.get_set_ne _ _ (Ne.symm h.ne)]; exact h.gp
    · rw [← kmap_put hh]; exact hm2
theorem spec55 {H : AHeap} {bp bm : Nat} {last : Int} {K : List Int} (h : Pid H bp bm last K) (hK : K.length ≤ 100) : CallW E 55 [ptr bp] H fun r H' => ∃ c, r = .tuple #[.int .i64 c, .bool true] ∧ NextIs last K c ∧ Pid H' bp bm c (K ++ [c]) ∧ Did (fun b => b = bp ∨ b = bm) H H' := by
  refine call55 (by simp) ?_
  simp only [strip, bodyOf, Try.f55, getD_body, keepN, bareOp_mk, lessOp_mk, lapp_cons, lapp_nil, List.map_cons, List.map_nil, array_toList, ↓reduceIte, Nat.reduceEqDiff, Bool.false_eq_true]
  have hm := h.mp
  have hlen := hm.len (E := E) (ts := []) ty93
  rw [kmap_len] at hlen
  have m0 : ∀ x : Int, ([.int .i64 65535, .int .i64 x, .map (some bm)] : List Value)[0]? = some (.int .i64 65535) := fun _ => rfl
  have m1 : ∀ x : Int, ([.int .i64 65535, .int .i64 x, .map (some bm)] : List Value)[1]? = some (.int .i64 x) := fun _ => rfl
  have m2 : ∀ x : Int, ([.int .i64 65535, .int .i64 x, .map (some bm)] : List Value)[2]? = some (.map (some bm)) := fun _ => rfl
  have hfit : ¬ (65535 : Int) ≤ (K.length : Int) := by omega
  simp (disch := first | assumption | simp) only [↓wbD, wbU, ↓aop, ↓reduceIte, Nat.reduceEqDiff, Nat.reduceLT, reduceCtorEq, goInt, pairs, nil_ptr ty49 rfl, Option.isNone_some, fa95_0, fa95_2, Nat.zero_add, ld_cell ty93 rfl h.gp, ld_cell ty3 rfl h.gp, m0, m2, hlen, hfit, decide_false]
  obtain ⟨j, hj, hF⟩ := first_ex (last := last) hK
  refine W_count (fun k f H' => f 0 = ptr bp ∧ ∃ (i : Nat) (x : Int), k = j - i ∧ i ≤ j ∧ Pid H' bp bm x K ∧ x % 65535 = (last + i) % 65535 ∧ Did (fun b => b = bp ∨ b = bm) H H') (k := j) ?_ ?_
  · simp (disch := first | assumption | simp) only [↓wbD, wbU, ↓aop, ↓reduceIte, Nat.reduceEqDiff, Nat.reduceLT, reduceCtorEq, goInt, pairs]
    exact ⟨0, last, by omega, by omega, h, by simp, Did.refl⟩
  rintro k f H' ⟨f0, i, x, rfl, hi, P, hx, hd⟩
  have hr := rem_pos (k := .i64) P.lo (show (0 : Int) < 65535 by omega)
  have hw : IntKind.i64.wrap (x % 65535 + 1) = x % 65535 + 1 := wrap64 ⟨by omega, by omega⟩
  have hc : cand last i = x % 65535 + 1 := by unfold cand; omega
  have hst := st_cell (E := E) (t := 3) (o := 1) (v := .int .i64 (x % 65535 + 1)) ty3 rfl P.gp (by simp) rfl rfl
  rw [show splice [.int .i64 65535, .int .i64 x, .map (some bm)] 1 [.int .i64 (x % 65535 + 1)] = [.int .i64 65535, .int .i64 (x % 65535 + 1), .map (some bm)] from rfl] at hst
  have g1 : (H'.set bp (.cells [.int .i64 65535, .int .i64 (x % 65535 + 1), .map (some bm)] true 0)).get bp = .cells [.int .i64 65535, .int .i64 (x % 65535 + 1), .map (some bm)] true 0 := AHeap.get_set_same _ _ _
  have P1 : Pid (H'.set bp (.cells [.int .i64 65535, .int .i64 (x % 65535 + 1), .map (some bm)] true 0)) bp bm (x % 65535 + 1) K := by
    exact ⟨g1, P.mp.keep (AHeap.get_set_ne _ _ P.ne), by omega, by omega, by rw [AHeap.size_set]; exact P.lt.1, by rw [AHeap.size_set]; exact P.lt.2⟩
  have hd1 : Did (fun b => b = bp ∨ b = bm) H (H'.set bp (.cells [.int .i64 65535, .int .i64 (x % 65535 + 1), .map (some bm)] true 0)) := hd.trans (did_set (.inl (.inl rfl)) (fun cs wr e => by rw [P.gp] at e; cases e))
  generalize H'.set bp (.cells [.int .i64 65535, .int .i64 (x % 65535 + 1), .map (some bm)] true 0) = H1 at hst g1 P1 hd1
  simp (disch := first | assumption | simp) only [↓wbD, wbU, ↓aop, ↓reduceIte, Nat.reduceEqDiff, Nat.reduceLT, reduceCtorEq, goInt, pairs, f0, fa95_0, fa95_1, Nat.zero_add, ld_cell ty3 rfl P.gp, m0, m1, hr, hw, hst, ld_cell ty3 rfl g1]
  refine (spec64 P1 (by omega) (by omega)).mono ?_
  rintro r H2 ⟨k1, k2⟩
  by_cases hh : x % 65535 + 1 ∈ K
  · obtain ⟨rfl, rfl⟩ := k1 hh
    simp (disch := first | assumption | simp) only [↓wbD, wbU, ↓aop, ↓reduceIte, Nat.reduceEqDiff, Nat.reduceLT, reduceCtorEq, goInt, pairs]
    refine ⟨_, _, rfl, ⟨?_, i + 1, x % 65535 + 1, rfl, ?_, P1, ?_, hd1⟩, ?_⟩
    · simp (disch := first | assumption | simp) only [↓wbD, wbU, ↓aop, ↓reduceIte, Nat.reduceEqDiff, Nat.reduceLT, reduceCtorEq, goInt, pairs, f0]
    · by_cases he : i = j
      · subst he; rw [← hc] at hh; exact (hF.2 hh).elim
      · omega
    · omega
    · by_cases he : i = j
      · subst he; rw [← hc] at hh; exact (hF.2 hh).elim
      · omega
  · obtain ⟨rfl, P2, o, rfl⟩ := k2 hh
    have he : i = j := by
      by_cases he : i = j
      · exact he
      · have := hF.1 i (by omega); rw [hc] at this; exact (hh this).elim
    subst he
    have hnc : ∀ cs wr, H1.get bm ≠ .cells cs wr 4 := fun cs wr e => by
      obtain ⟨es, clk, q1, _⟩ := P1.mp
      rw [q1] at e; cases e
    simp (disch := first | assumption | simp) only [↓wbD, wbU, ↓aop, ↓reduceIte, Nat.reduceEqDiff, Nat.reduceLT, reduceCtorEq, goInt, pairs, f0, fa95_0, fa95_1, Nat.zero_add, ld_cell ty3 rfl P2.gp, m1]
    exact ⟨_, rfl, ⟨i, hF, hc.symm⟩, P2, hd1.trans (did_set (.inl (.inr rfl)) hnc)⟩
theorem build95 {r : Nat} : abuild E 95 [(0, .int .i64 65535), (2, .map (some r))] = some (.agg #[.int .i64 65535, .int .i64 0, .map (some r)]) := by kernel_rfl
theorem spec53 {H : AHeap} : CallW E 53 [.int .i64 65535] H fun r H' => r = ptr (H.size + 1) ∧ H' = (H.alloc (.map [] 0)).alloc (.cells [.int .i64 65535, .int .i64 0, .map (some H.size)] true 0) := by
  refine call53 (by simp) ?_
  simp only [strip, bodyOf, Try.f53, getD_body, keepN, bareOp_mk, lessOp_mk, lapp_cons, lapp_nil, List.map_cons, List.map_nil, array_toList, ↓reduceIte, Nat.reduceEqDiff, Bool.false_eq_true]
  have e1 : (if (65535 : Int) < 65535 then (65535 : Int) else 65535) = 65535 := rfl
  have e2 : (if (0 : Int) < 65535 then (65535 : Int) else 0) = 65535 := rfl
  simp (disch := first | assumption | simp) only [↓wbD, wbU, ↓aop, ↓reduceIte, Nat.reduceEqDiff, Nat.reduceLT, reduceCtorEq, goInt, pairs, e1, e2, build95, vcells, Int.lt_irrefl]
  exact ⟨by rw [AHeap.size_alloc], trivial⟩
theorem spec68 {H : AHeap} {bp bm : Nat} {last a : Int} {K : List Int} (h : Pid H bp bm last K) : CallW E 68 [ptr bp, .int .i64 a] H fun r H' => r = .bool (decide (a ∈ K)) ∧ Pid H' bp bm last (K.erase a) ∧ Did (fun b => b = bm) H H' := by
  refine call68 (by simp) ?_
  simp only [strip, bodyOf, Try.f68, getD_body, keepN, bareOp_mk, lessOp_mk, lapp_cons, lapp_nil, List.map_cons, List.map_nil, array_toList, ↓reduceIte, Nat.reduceEqDiff, Bool.false_eq_true]
  simp (disch := first | assumption | simp) only [↓wbD, wbU, ↓aop, ↓reduceIte, Nat.reduceEqDiff, Nat.reduceLT, reduceCtorEq, goInt, pairs]
  refine (spec70 h).mono ?_
  rintro r H ⟨rfl, rfl⟩
  have hm := h.mp
  by_cases hh : a ∈ K
  · obtain ⟨H', hdel, hm2, hs, hkeep⟩ := hm.del (E := E) ikeys (t := 93) (x := a) ty93 rfl
    have hb : abuiltin E H .delete [93, 3] [.map (some bm), ik a] = some (.tuple #[], H') := by simp [abuiltin, hdel]
    have m2 : ([.int .i64 65535, .int .i64 last, .map (some bm)] : List Value)[2]? = some (.map (some bm)) := rfl
    have hnc : ∀ cs wr, H.get bm ≠ .cells cs wr 4 := fun cs wr e => by
      obtain ⟨es, clk, q1, _⟩ := hm
      rw [q1] at e; cases e
    simp (disch := first | assumption | simp) only [↓wbD, wbU, ↓aop, ↓reduceIte, Nat.reduceEqDiff, Nat.reduceLT, reduceCtorEq, goInt, pairs, hh, decide_true, fa95_2, Nat.zero_add, ld_cell ty93 rfl h.gp, m2, hb]
    refine ⟨⟨by rw [hkeep _ h.ne]; exact h.gp, by rw [← kmap_del]; exact hm2, h.lo, h.hi, by rw [hs]; exact h.lt.1, by rw [hs]; exact h.lt.2⟩, ⟨⟨by omega, fun b hb hne => hkeep b hne⟩, by omega, fun b hb cs wr hg => ?_⟩⟩
    rw [hkeep b (fun e => by subst e; exact hnc _ _ hg)]; exact hg
  · simp (disch := first | assumption | simp) only [↓wbD, wbU, ↓aop, ↓reduceIte, Nat.reduceEqDiff, Nat.reduceLT, reduceCtorEq, goInt, pairs, hh, decide_false]
    rw [List.erase_of_not_mem hh]
    exact ⟨h, Did.refl⟩
end Go.Proofs.Ytlmcjfnignbdoaa.Abs
