/-
  A part of a law's proof.
-/
import Derived.Test.YtlmcjfnignbdoaaAOj
namespace Go.Proofs.Ytlmcjfnignbdoaa.Abs
open Go AbsYtlmcjfnignbdoaa
set_option maxRecDepth 100000
set_option maxHeartbeats 4000000
set_option linter.unusedSimpArgs false
set_option linter.unusedVariables false
/-! ### the document's side -/
def icell (n : Int) : List Value := [ik n]
theorem icell_len (n : Int) : (icell n).length = 1 := rfl
abbrev icells (K : List Int) : List Value := K.flatMap icell
structure OutR (H : AHeap) (D : Nat → Prop) (ro rp : Nat) (last : Int) (F : FS) (K : List Int) : Prop where
  go : ∃ v, H.get ro = .cells [ptr rp, v] true 0 ∧ OwnC H 11 v F.length (fcells F) ∧ ∀ b ∈ blkOf v, D b
  gp : ∃ w, H.get rp = .cells [.int .i64 65535, .int .i64 last, w] true 0 ∧ OwnC H 1 w K.length (icells K) ∧ ∀ b ∈ blkOf w, D b
  lo : 0 ≤ last
  hi : last ≤ 65535
  mem : Mems H F
  own : D ro ∧ D rp
  ne : ro ≠ rp
  lt : ∀ b, D b → b < H.size
theorem OutR.keep {H H' : AHeap} {D S : Nat → Prop} {ro rp : Nat} {last : Int} {F : FS} {K : List Int} (h : OutR H D ro rp last F K) (k : Did S H H') (hS : ∀ b, D b → ¬ S b) : OutR H' D ro rp last F K := by
  obtain ⟨⟨v, g1, g2, g3⟩, ⟨w, p1, p2, p3⟩, lo, hi, m, ⟨o1, o2⟩, ne, lt⟩ := h
  have e : ∀ b, D b → H'.get b = H.get b := fun b hb => k.but.get b (lt b hb) (hS b hb)
  exact ⟨⟨v, by rw [e _ o1]; exact g1, g2.keep k.size fun b hb => e b (g3 b hb), g3⟩, ⟨w, by rw [e _ o2]; exact p1, p2.keep k.size fun b hb => e b (p3 b hb), p3⟩, lo, hi, m.keep k.kept, ⟨o1, o2⟩, ne, fun b hb => Nat.lt_of_lt_of_le (lt b hb) k.size⟩
theorem OutR.grow {H : AHeap} {D D' : Nat → Prop} {ro rp : Nat} {last : Int} {F : FS} {K : List Int} (h : OutR H D ro rp last F K) (hD : ∀ b, D b → D' b) (hl : ∀ b, D' b → b < H.size) : OutR H D' ro rp last F K := by
  obtain ⟨⟨v, g1, g2, g3⟩, ⟨w, p1, p2, p3⟩, lo, hi, m, ⟨o1, o2⟩, ne, lt⟩ := h
  exact ⟨⟨v, g1, g2, fun b hb => hD b (g3 b hb)⟩, ⟨w, p1, p2, fun b hb => hD b (p3 b hb)⟩, lo, hi, m, ⟨hD _ o1, hD _ o2⟩, ne, hl⟩
theorem build97 {a : Int} : abuild E 97 [(0, .int .i64 a)] = some (.agg #[.int .i64 a, .int .i64 0, .slice none 0 0]) := by kernel_rfl
theorem build69 {b : Nat} : abuild E 69 [(0, ptr b)] = some (.agg #[ptr b, .slice none 0 0]) := by kernel_rfl
theorem spec54 {H : AHeap} : CallW E 54 [.int .i64 65535] H fun r H' => r = ptr H.size ∧ H' = H.alloc (.cells [.int .i64 65535, .int .i64 0, .slice none 0 0] true 0) := by
  refine call54 (by simp) ?_
  simp only [strip, bodyOf, Try.f54, getD_body, keepN, bareOp_mk, lessOp_mk, lapp_cons, lapp_nil, List.map_cons, List.map_nil, array_toList, ↓reduceIte, Nat.reduceEqDiff, Bool.false_eq_true]
  have e1 : (if (65535 : Int) < 65535 then (65535 : Int) else 65535) = 65535 := rfl
  have e2 : (if (0 : Int) < 65535 then (65535 : Int) else 0) = 65535 := rfl
  simp (disch := first | assumption | simp) only [↓wbD, wbU, ↓aop, ↓reduceIte, Nat.reduceEqDiff, Nat.reduceLT, reduceCtorEq, goInt, pairs, e1, e2, build97, vcells, Int.lt_irrefl]
theorem spec27 {H : AHeap} : CallW E 27 [] H fun r H' => r = ptr (H.size + 1) ∧ OutR H' (fun b => H.size ≤ b ∧ b < H'.size) (H.size + 1) H.size 0 [] [] ∧ Ext H H' := by
  refine call27 (by simp) ?_
  simp only [strip, bodyOf, Try.f27, getD_body, keepN, bareOp_mk, lessOp_mk, lapp_cons, lapp_nil, List.map_cons, List.map_nil, array_toList, ↓reduceIte, Nat.reduceEqDiff, Bool.false_eq_true]
  simp (disch := first | assumption | simp) only [↓wbD, wbU, ↓aop, ↓reduceIte, Nat.reduceEqDiff, Nat.reduceLT, reduceCtorEq, goInt, pairs]
  refine spec54.mono ?_
  rintro r H1 ⟨rfl, rfl⟩
  simp (disch := first | assumption | simp) only [↓wbD, wbU, ↓aop, ↓reduceIte, Nat.reduceEqDiff, Nat.reduceLT, reduceCtorEq, goInt, pairs, build69, vcells, AHeap.size_alloc]
  have g : ∀ o o' b, ((H.alloc o).alloc o').get b = if b = H.size + 1 then o' else if b = H.size then o else H.get b := fun o o' b => by
    rw [get_alloc, AHeap.size_alloc, get_alloc]
  have hs : ∀ o o', ((H.alloc o).alloc o').size = H.size + 2 := fun o o' => by rw [AHeap.size_alloc, AHeap.size_alloc]
  refine ⟨⟨⟨.slice none 0 0, by rw [g, if_pos rfl], OwnC.nil, by simp [blkOf]⟩, ⟨.slice none 0 0, by rw [g, if_neg (by omega), if_pos rfl], OwnC.nil, by simp [blkOf]⟩, by omega, by omega, fun p hp => by simp at hp, ⟨⟨by omega, by first | omega | (rw [hs]; omega)⟩, ⟨by omega, by first | omega | (rw [hs]; omega)⟩⟩, by omega, fun b hb => hb.2⟩, by first | omega | (rw [hs]; omega), fun b hb => ?_⟩
  rw [g, if_neg (by omega), if_neg (by omega)]
theorem icells_at {K : List Int} {sp : List Value} {i : Nat} (hi : i < K.length) : (icells K ++ sp)[i]? = some (ik K[i]) := by
  have hf : i * 1 + 1 ≤ (icells K).length := chunk_fit icell_len hi (Nat.le_refl 1)
  have := chunk_cell icell_len hi (show 0 < 1 by omega)
  rw [List.getElem?_append_left (by omega)]
  simpa [icell] using this
theorem own_ints {H : AHeap} {v : Value} {K : List Int} (h : OwnC H 1 v K.length (icells K)) {i : Nat} (hi : i < K.length) : ∃ b c ex sp, v = .slice (some ⟨b, 0, ex⟩) K.length c ∧ H.get b = .cells (icells K ++ sp) true 1 ∧ b < H.size := by
  rcases h with ⟨_, h0, _⟩ | ⟨b, c, ex, sp, rfl, h1, _, _, _, h5⟩
  · omega
  · exact ⟨b, c, ex, sp, rfl, h1, h5⟩
theorem spec65 {H : AHeap} {rp : Nat} {x y w : Value} {a : Int} {K : List Int} (hg : H.get rp = .cells [x, y, w] true 0) (ho : OwnC H 1 w K.length (icells K)) (hK : K.length ≤ 100) : CallW E 65 [ptr rp, .int .i64 a] H fun r H' => r = .bool (decide (a ∈ K)) ∧ H' = H := by
  refine call65 (by simp) ?_
  simp only [strip, bodyOf, Try.f65, getD_body, keepN, bareOp_mk, lessOp_mk, lapp_cons, lapp_nil, List.map_cons, List.map_nil, array_toList, ↓reduceIte, Nat.reduceEqDiff, Bool.false_eq_true]
  have m2 : ([x, y, w] : List Value)[2]? = some w := rfl
  have hlen := ho.slice.alen (E := E) (ts := []) ty27
  simp (disch := first | assumption | simp) only [↓wbD, wbU, ↓aop, ↓reduceIte, Nat.reduceEqDiff, Nat.reduceLT, reduceCtorEq, goInt, pairs]
  refine W_loop (fun f H' => H' = H ∧ f 0 = ptr rp ∧ f 1 = .int .i64 a ∧ ∃ i : Nat, i ≤ K.length ∧ f 5 = .int .i64 i ∧ ∀ j (hj : j < K.length), j < i → K[j] ≠ a) (fun f _ => match f 5 with | .int _ i => K.length - i.toNat | _ => 0) ?_ ?_
  · refine ⟨rfl, ?_, ?_, 0, by omega, ?_, fun j _ hj => by omega⟩
    · simp (disch := first | assumption | simp) only [↓wbD, wbU, ↓aop, ↓reduceIte, Nat.reduceEqDiff, Nat.reduceLT, reduceCtorEq, goInt, pairs]
    · simp (disch := first | assumption | simp) only [↓wbD, wbU, ↓aop, ↓reduceIte, Nat.reduceEqDiff, Nat.reduceLT, reduceCtorEq, goInt, pairs]
    · simp (disch := first | assumption | simp) only [↓wbD, wbU, ↓aop, ↓reduceIte, Nat.reduceEqDiff, Nat.reduceLT, reduceCtorEq, goInt, pairs]
      rfl
  rintro f H1 ⟨rfl, f0, f1, i, hi, f5, hb⟩
  by_cases hin : (i : Int) < (K.length : Int)
  · have hiK : i < K.length := by omega
    obtain ⟨b, c, ex, sp, rfl, hgb, _⟩ := own_ints ho hiK
    have hw := wrap_nat (n := i) (by omega)
    by_cases he : K[i] = a
    · simp (disch := first | assumption | simp) only [↓wbD, wbU, ↓aop, ↓reduceIte, Nat.reduceEqDiff, Nat.reduceLT, reduceCtorEq, goInt, pairs, f0, f1, f5, fa97_2, Nat.zero_add, Nat.mul_one, ld_cell ty27 rfl hg, m2, hlen, hin, decide_true, ia_slice ty27 ty3 hiK, ld_cell ty3 rfl hgb, icells_at hiK, he]
      have : a ∈ K := he ▸ List.getElem_mem hiK
      simp [this]
    · simp (disch := first | assumption | simp) only [↓wbD, wbU, ↓aop, ↓reduceIte, Nat.reduceEqDiff, Nat.reduceLT, reduceCtorEq, goInt, pairs, f0, f1, f5, fa97_2, Nat.zero_add, Nat.mul_one, ld_cell ty27 rfl hg, m2, hlen, hin, decide_true, ia_slice ty27 ty3 hiK, ld_cell ty3 rfl hgb, icells_at hiK, he, decide_false, hw]
      refine ⟨_, rfl, ⟨?_, ?_, i + 1, by omega, ?_, fun j hj hji => ?_⟩, ?_⟩
      · simp (disch := first | assumption | simp) only [↓wbD, wbU, ↓aop, ↓reduceIte, Nat.reduceEqDiff, Nat.reduceLT, reduceCtorEq, goInt, pairs, f0]
      · simp (disch := first | assumption | simp) only [↓wbD, wbU, ↓aop, ↓reduceIte, Nat.reduceEqDiff, Nat.reduceLT, reduceCtorEq, goInt, pairs, f1]
      · simp (disch := first | assumption | simp) only [↓wbD, wbU, ↓aop, ↓reduceIte, Nat.reduceEqDiff, Nat.reduceLT, reduceCtorEq, goInt, pairs]
      · by_cases hje : j = i
        · subst hje; exact he
        · exact hb j hj (by omega)
      · simp (disch := first | assumption | simp) only [↓wbD, wbU, ↓aop, ↓reduceIte, Nat.reduceEqDiff, Nat.reduceLT, reduceCtorEq, goInt, pairs, f5]
        simp; omega
  · simp (disch := first | assumption | simp) only [↓wbD, wbU, ↓aop, ↓reduceIte, Nat.reduceEqDiff, Nat.reduceLT, reduceCtorEq, goInt, pairs, f0, f1, f5, fa97_2, Nat.zero_add, ld_cell ty27 rfl hg, m2, hlen, hin, decide_false]
    have : a ∉ K := fun hm => by
      obtain ⟨j, hj, e⟩ := List.getElem_of_mem hm
      exact hb j hj (by omega) e
    simp [this]
theorem zero3 : azero E 3 = some [.int .i64 0] := rfl
theorem bs27 {H : AHeap} {c : Int} : abuildSlice E H 27 1 [(0, .int .i64 c)] = some (.slice (some ⟨H.size, 0, some 1⟩) 1 1, H.alloc (.cells [ik c] true 1)) := by
  simp [abuildSlice, ty27, ty3, azero, lfill, reps, splice, vcells, ZV.val]
theorem spec56 {H : AHeap} {rp : Nat} {last : Int} {w : Value} {K : List Int} (hg : H.get rp = .cells [.int .i64 65535, .int .i64 last, w] true 0) (hrp : rp < H.size) (ho : OwnC H 1 w K.length (icells K)) (lo : 0 ≤ last) (hi : last ≤ 65535) (hK : K.length ≤ 100) :
    CallW E 56 [ptr rp] H fun r H' => ∃ c w', r = .tuple #[.int .i64 c, .bool true] ∧ NextIs last K c ∧ H'.get rp = .cells [.int .i64 65535, .int .i64 c, w'] true 0 ∧ OwnC H' 1 w' (K ++ [c]).length (icells (K ++ [c])) ∧ (∀ b ∈ blkOf w', b ∈ blkOf w ∨ H.size ≤ b ∧ b < H'.size) ∧ Did (fun b => b = rp ∨ b ∈ blkOf w) H H' := by
  refine call56 (by simp) ?_
  simp only [strip, bodyOf, Try.f56, getD_body, keepN, bareOp_mk, lessOp_mk, lapp_cons, lapp_nil, List.map_cons, List.map_nil, array_toList, ↓reduceIte, Nat.reduceEqDiff, Bool.false_eq_true]
  have m0 : ∀ x y z : Value, ([x, y, z] : List Value)[0]? = some x := fun _ _ _ => rfl
  have m1 : ∀ x y z : Value, ([x, y, z] : List Value)[1]? = some y := fun _ _ _ => rfl
  have m2 : ∀ x y z : Value, ([x, y, z] : List Value)[2]? = some z := fun _ _ _ => rfl
  have hlen := ho.slice.alen (E := E) (ts := []) ty27
  have hfit : ¬ (65535 : Int) ≤ (K.length : Int) := by omega
  simp (disch := first | assumption | simp) only [↓wbD, wbU, ↓aop, ↓reduceIte, Nat.reduceEqDiff, Nat.reduceLT, reduceCtorEq, goInt, pairs, fa97_0, fa97_2, Nat.zero_add, ld_cell ty27 rfl hg, ld_cell ty3 rfl hg, m0, m2, hlen, hfit, decide_false]
  obtain ⟨j, hj, hF⟩ := first_ex (last := last) hK
  refine W_loop (fun f H' => H' = H ∧ f 0 = ptr rp ∧ ∃ i : Nat, i ≤ j ∧ f 4 = .int .i64 i) (fun f _ => match f 4 with | .int _ i => j - i.toNat | _ => 0) ?_ ?_
  · refine ⟨rfl, ?_, 0, by omega, ?_⟩
    · simp (disch := first | assumption | simp) only [↓wbD, wbU, ↓aop, ↓reduceIte, Nat.reduceEqDiff, Nat.reduceLT, reduceCtorEq, goInt, pairs]
    · simp (disch := first | assumption | simp) only [↓wbD, wbU, ↓aop, ↓reduceIte, Nat.reduceEqDiff, Nat.reduceLT, reduceCtorEq, goInt, pairs]
      rfl
  rintro f H1 ⟨rfl, f0, i, hij, f4⟩
  have hlt : (i : Int) < 65535 := by omega
  have hw0 : IntKind.i64.wrap (last + (i : Int)) = last + (i : Int) := wrap64 ⟨by omega, by omega⟩
  have hr := rem_pos (k := .i64) (a := last + (i : Int)) (by omega) (show (0 : Int) < 65535 by omega)
  have hw1 : IntKind.i64.wrap ((last + (i : Int)) % 65535 + 1) = cand last i := wrap64 ⟨by omega, by omega⟩
  have hwi := wrap_nat (n := i) (by omega)
  simp (disch := first | assumption | simp) only [↓wbD, wbU, ↓aop, ↓reduceIte, Nat.reduceEqDiff, Nat.reduceLT, reduceCtorEq, goInt, pairs, f0, f4, fa97_0, fa97_1, Nat.zero_add, ld_cell ty3 rfl hg, m0, m1, hlt, decide_true, hw0, hr, hw1]
  refine (spec65 hg ho hK).mono ?_
  rintro r H1 ⟨rfl, rfl⟩
  by_cases hm : cand last i ∈ K
  · simp (disch := first | assumption | simp) only [↓wbD, wbU, ↓aop, ↓reduceIte, Nat.reduceEqDiff, Nat.reduceLT, reduceCtorEq, goInt, pairs, hm, decide_true, not_bool, Bool.not_true, f4, hwi]
    refine ⟨_, rfl, ⟨?_, i + 1, ?_, ?_⟩, ?_⟩
    · simp (disch := first | assumption | simp) only [↓wbD, wbU, ↓aop, ↓reduceIte, Nat.reduceEqDiff, Nat.reduceLT, reduceCtorEq, goInt, pairs, f0]
    · by_cases he : i = j
      · subst he; exact (hF.2 hm).elim
      · omega
    · simp (disch := first | assumption | simp) only [↓wbD, wbU, ↓aop, ↓reduceIte, Nat.reduceEqDiff, Nat.reduceLT, reduceCtorEq, goInt, pairs]
    · simp (disch := first | assumption | simp) only [↓wbD, wbU, ↓aop, ↓reduceIte, Nat.reduceEqDiff, Nat.reduceLT, reduceCtorEq, goInt, pairs, f4]
      have : i < j := by
        by_cases he : i = j
        · subst he; exact (hF.2 hm).elim
        · omega
      simp; omega
  have he : i = j := by
    by_cases he : i = j
    · exact he
    · exact (hm (hF.1 i (by omega))).elim
  subst he
  generalize hcc : cand last i = c at *
  have x2 : Ext H1 (H1.alloc (.cells [ik c] true 1)) := Ext.alloc _ _
  have ow2 := ho.keep x2.size fun b hb => x2.get b (ho.sz hb).2
  have hn2 : H1.size ∉ blkOf w := fun hb => by have := (ho.sz hb).2; omega
  obtain ⟨w3, H3, ha3, ow3, s3, k3, b3⟩ := ow2.append (t := 27) (e := 3) (c := H1.size) (ex := some 1) (new := [ik c]) ty27 ty3 rfl zero3 rfl (by omega) (by decide) (AHeap.get_alloc_same _ _) hn2 rfl rfl (by show (_ + 1) * 8 ≤ _; omega)
  rw [AHeap.size_alloc] at s3 k3 b3
  have g3 : H3.get rp = .cells [.int .i64 65535, .int .i64 last, w] true 0 := by rw [k3 _ (by omega) (ho.off hg (by omega)), x2.get _ hrp]; exact hg
  have hst1 := st_cell (E := E) (t := 27) (o := 2) (v := w3) ty27 rfl g3 (by simp) ow3.shape.1 ow3.shape.2
  rw [show splice [.int .i64 65535, .int .i64 last, w] 2 [w3] = [.int .i64 65535, .int .i64 last, w3] from rfl] at hst1
  have g4 : (H3.set rp (.cells [.int .i64 65535, .int .i64 last, w3] true 0)).get rp = .cells [.int .i64 65535, .int .i64 last, w3] true 0 := AHeap.get_set_same _ _ _
  have hst2 := st_cell (E := E) (t := 3) (o := 1) (v := .int .i64 c) ty3 rfl g4 (by simp) rfl rfl
  rw [show splice [.int .i64 65535, .int .i64 last, w3] 1 [.int .i64 c] = [.int .i64 65535, .int .i64 c, w3] from rfl] at hst2
  simp (disch := first | assumption | simp) only [↓wbD, wbU, ↓aop, ↓reduceIte, Nat.reduceEqDiff, Nat.reduceLT, reduceCtorEq, goInt, pairs, hm, decide_false, not_bool, Bool.not_false, f0, fa97_1, fa97_2, Nat.zero_add, ld_cell ty27 rfl hg, m2, bs27, ha3, hst1, hst2]
  have d3 : Did (fun b => b = rp ∨ b ∈ blkOf w) H1 H3 := x2.did.trans (ow2.did (by omega) (by rw [AHeap.size_alloc]; omega) (by rw [AHeap.size_alloc]; exact k3) fun b hb => .inl (.inr hb))
  have d4 := d3.trans (did_set (b := rp) (o := .cells [.int .i64 65535, .int .i64 last, w3] true 0) (.inl (.inl rfl)) (fun cs wr e => by rw [g3] at e; cases e))
  have d5 := d4.trans (did_set (b := rp) (o := .cells [.int .i64 65535, .int .i64 c, w3] true 0) (.inl (.inl rfl)) (fun cs wr e => by rw [g4] at e; cases e))
  refine ⟨c, w3, rfl, ⟨i, hF, hcc.symm⟩, AHeap.get_set_same _ _ _, ?_, fun b hb => ?_, d5⟩
  · have : OwnC H3 1 w3 (K ++ [c]).length (icells (K ++ [c])) := by rw [icells, chunk_snoc, List.length_append]; exact ow3
    refine this.keep (by rw [AHeap.size_set, AHeap.size_set]; exact Nat.le_refl _) fun b hb => ?_
    have hne : b ≠ rp := by rintro rfl; exact ow3.off g3 (by omega) hb
    rw [AHeap.get_set_ne _ _ (Ne.symm hne), AHeap.get_set_ne _ _ (Ne.symm hne)]
  · rcases b3 b hb with hb' | hb'
    · exact .inl hb'
    · exact .inr ⟨by omega, by rw [AHeap.size_set, AHeap.size_set]; exact (ow3.sz hb).2⟩
end Go.Proofs.Ytlmcjfnignbdoaa.Abs
