/-
  A part of a law's proof.
-/
import Derived.Test.YtlmcjfnignbdoaaAPc
namespace Go.Proofs.Ytlmcjfnignbdoaa.Abs
open Go AbsYtlmcjfnignbdoaa
set_option maxRecDepth 100000
set_option maxHeartbeats 4000000
set_option linter.unusedSimpArgs false
set_option linter.unusedVariables false
theorem spec29 {H : AHeap} {D : Nat → Prop} {ro rp : Nat} {last q : Int} {F : FS} {m : Msg} {sl : Value} (h : OutR H D ro rp last F (ids F)) (hm : Mem H m sl) (hF : F.length ≤ 60) :
    CallW E 29 [ptr ro, .agg (m.v sl).toArray, .int .i64 q] H fun r H' => ∃ last' F' x ok, r = .tuple #[.int .i64 x, .bool ok] ∧ OutR H' (Grow D H H') ro rp last' F' (ids F') ∧ Did D H H' ∧ SendIs last (F.map (·.1)) q m last' (F'.map (·.1)) x ok := by
  refine call29 (by simp) ?_
  simp only [strip, bodyOf, Try.f29, getD_body, keepN, bareOp_mk, lessOp_mk, lapp_cons, lapp_nil, List.map_cons, List.map_nil, array_toList, ↓reduceIte, Nat.reduceEqDiff, Bool.false_eq_true]
  obtain ⟨a0, n0, c0, rfl⟩ := hm.shape
  have hv : vcells (.agg (m.v (.slice a0 n0 c0)).toArray) = m.v (.slice a0 n0 c0) := rfl
  have x1 : Ext H (H.alloc (.cells (m.v (.slice a0 n0 c0)) true 0)) := Ext.alloc _ _
  have z1 : (H.alloc (.cells (m.v (.slice a0 n0 c0)) true 0)).get H.size = .cells (m.v (.slice a0 n0 c0)) true 0 := AHeap.get_alloc_same _ _
  have s1 : (H.alloc (.cells (m.v (.slice a0 n0 c0)) true 0)).size = H.size + 1 := AHeap.size_alloc _ _
  have o1 : OutR (H.alloc (.cells (m.v (.slice a0 n0 c0)) true 0)) D ro rp last F (ids F) := h.keep (S := fun _ => False) x1.did fun _ _ hf => hf
  by_cases hq : q = 1 ∨ q = 2
  rotate_left
  · have q1 : ¬ q = 1 := fun e => hq (.inl e)
    have q2 : ¬ q = 2 := fun e => hq (.inr e)
    simp (disch := first | assumption | simp) only [↓wbD, wbU, ↓aop, ↓reduceIte, Nat.reduceEqDiff, Nat.reduceLT, reduceCtorEq, goInt, pairs, hv, q1, q2, decide_true, decide_false, not_false_eq_true]
    refine ⟨last, F, 0, false, rfl, o1.grow (fun b hb => .inl hb) ?_, x1.did, .inr ⟨hq, rfl, rfl, rfl, rfl⟩⟩
    rintro b (hb | hb)
    · exact o1.lt b hb
    · exact hb.2
  have hro := h.lt _ h.own.1
  have hrp := h.lt _ h.own.2
  have hK : (ids F).length ≤ 100 := by simp; omega
  have c1 : ∀ v : Value, ([ptr rp, v] : List Value)[1]? = some v := fun _ => rfl
  have c0' : ∀ v : Value, ([ptr rp, v] : List Value)[0]? = some (ptr rp) := fun _ => rfl
  generalize hG_H1 : H.alloc (.cells (m.v (.slice a0 n0 c0)) true 0) = H1 at *
  obtain ⟨v, g1, ow1, dv⟩ := o1.go
  obtain ⟨w, p1, pw, dw⟩ := o1.gp
  have e21 : ¬ ((2 : Int) = 1) := by decide
  rcases hq with rfl | rfl
  · simp (disch := first | assumption | simp) only [↓wbD, wbU, ↓aop, ↓reduceIte, Nat.reduceEqDiff, Nat.reduceLT, reduceCtorEq, goInt, pairs, hG_H1, hv, s1, decide_true, decide_false, not_true_eq_false, fa69_0, Nat.zero_add, ld_cell ty67 rfl g1, c0']
    refine (spec56 p1 (by omega) pw h.lo h.hi hK).mono ?_
    rintro r H2 ⟨c, w2, rfl, hc, p2, pw2, dw2, d2⟩
    have s2 := d2.size
    have nD : ∀ b, H.size ≤ b → ¬ D b := fun b hb hD => by have := h.lt b hD; omega
    have z2 : H2.get H.size = .cells (m.v (.slice a0 n0 c0)) true 0 := by rw [d2.but.get _ (by omega) (fun e => e.elim (fun e => by omega) fun e => nD _ (Nat.le_refl _) (dw _ e))]; exact z1
    have hrow : ro ∉ blkOf w := pw.off g1 (by omega)
    have g2 : H2.get ro = .cells [ptr rp, v] true 0 := by rw [d2.but.get _ (by omega) (by rintro (e | e); exact h.ne e; exact hrow e)]; exact g1
    have ow2 : OwnC H2 11 v F.length (fcells F) := ow1.keep s2 fun b hb => d2.but.get b (ow1.sz hb).2 (by
      rintro (rfl | e)
      · exact ow1.off p1 (by omega) hb
      · obtain ⟨⟨xs, e1⟩, _⟩ := pw.sz e; exact ow1.off e1 (by omega) hb)
    have hm2 : Mem H2 m (.slice a0 n0 c0) := (hm.keep (x1.did (D := D)).kept).keep d2.kept
    obtain ⟨r6, H6, ha6, ow6, s6, k6, b6, d6⟩ := fl_append (p := (⟨c, 1, m⟩, .slice a0 n0 c0)) ow2 hm2 (by omega)
    have g6 : H6.get ro = .cells [ptr rp, v] true 0 := by rw [k6 _ (by omega) (ow2.off g2 (by omega))]; exact g2
    have hst := st_cell (E := E) (t := 50) (o := 1) (v := r6) ty50 rfl g6 (by simp) ow6.shape.1 ow6.shape.2
    rw [show splice [ptr rp, v] 1 [r6] = [ptr rp, r6] from rfl] at hst
    simp (disch := first | assumption | simp) only [↓wbD, wbU, ↓aop, ↓reduceIte, Nat.reduceEqDiff, Nat.reduceLT, reduceCtorEq, goInt, pairs, hG_H1, tup0, tup1, not_bool, Bool.not_true, fa69_1, Nat.zero_add, ld_cell ty50 rfl g2, c1, ld31 z2, build75, bs50, ha6, hst]
    have d7 : Did (fun b => b = ro) H6 (H6.set ro (.cells [ptr rp, r6] true 0)) := did_set rfl (fun cs wr e => by rw [g6] at e; cases e)
    have D7 : Did D H (H6.set ro (.cells [ptr rp, r6] true 0)) := ((x1.did.trans (d2.mono fun b _ hb => .inl (by rcases hb with rfl | hb; exact h.own.2; exact dw b hb))).trans (d6.mono fun b _ hb => .inl (dv b hb))).trans (d7.mono fun b _ hb => .inl (hb ▸ h.own.1))
    have rpv : rp ∉ blkOf v := ow2.off p2 (by omega)
    have kw : ∀ b, b < H2.size → b ∉ blkOf v → b ≠ ro → (H6.set ro (.cells [ptr rp, r6] true 0)).get b = H2.get b := fun b hb h1 h2 => by
      rw [AHeap.get_set_ne _ _ (Ne.symm h2), k6 b hb h1]
    refine ⟨c, F ++ [(⟨c, 1, m⟩, .slice a0 n0 c0)], c, true, rfl, ⟨⟨r6, AHeap.get_set_same _ _ _, ?_, fun b hb => ?_⟩, ⟨w2, ?_, ?_, fun b hb => ?_⟩, ?_, ?_, fun p hp => ?_, ⟨.inl h.own.1, .inl h.own.2⟩, h.ne, ?_⟩, D7, .inl ⟨by simp, rfl, ?_, rfl, by simp⟩⟩
    · exact ow6.keep (by rw [AHeap.size_set]; exact Nat.le_refl _) fun b hb => AHeap.get_set_ne _ _ (by rintro rfl; exact ow6.off g6 (by omega) hb)
    · rcases b6 b hb with hb' | hb'
      · exact .inl (dv b hb')
      · exact .inr ⟨by omega, by rw [AHeap.size_set]; exact (ow6.sz hb).2⟩
    · rw [kw _ (by omega) rpv (Ne.symm h.ne)]; exact p2
    · rw [show ids (F ++ [((⟨c, 1, m⟩ : Fl), Value.slice a0 n0 c0)]) = ids F ++ [c] by simp [ids]]
      refine pw2.keep (by rw [AHeap.size_set]; omega) fun b hb => kw b (pw2.sz hb).2 (fun hv' => ?_) (by rintro rfl; exact pw2.off g2 (by omega) hb)
      obtain ⟨⟨xs, e1⟩, _⟩ := pw2.sz hb
      exact ow2.off e1 (by omega) hv'
    · rcases dw2 b hb with hx | hx
      · exact .inl (dw b hx)
      · exact .inr ⟨by omega, by rw [AHeap.size_set]; omega⟩
    · obtain ⟨j, _, rfl⟩ := hc; have := cand_lo (last := last) (j := j); omega
    · obtain ⟨j, _, rfl⟩ := hc; exact cand_hi
    · rcases List.mem_append.1 hp with hp | hp
      · exact (h.mem p hp).keep D7.kept
      · obtain rfl := List.mem_singleton.1 hp
        exact hm2.keep (d6.kept.trans d7.kept)
    · rintro b (hb | hb)
      · exact Nat.lt_of_lt_of_le (h.lt b hb) D7.size
      · exact hb.2
    · rw [List.map_map]; exact hc
  · simp (disch := first | assumption | simp) only [↓wbD, wbU, ↓aop, ↓reduceIte, Nat.reduceEqDiff, Nat.reduceLT, reduceCtorEq, goInt, pairs, hG_H1, hv, s1, e21, decide_true, decide_false, not_true_eq_false, not_false_eq_true, fa69_0, Nat.zero_add, ld_cell ty67 rfl g1, c0']
    refine (spec56 p1 (by omega) pw h.lo h.hi hK).mono ?_
    rintro r H2 ⟨c, w2, rfl, hc, p2, pw2, dw2, d2⟩
    have s2 := d2.size
    have nD : ∀ b, H.size ≤ b → ¬ D b := fun b hb hD => by have := h.lt b hD; omega
    have z2 : H2.get H.size = .cells (m.v (.slice a0 n0 c0)) true 0 := by rw [d2.but.get _ (by omega) (fun e => e.elim (fun e => by omega) fun e => nD _ (Nat.le_refl _) (dw _ e))]; exact z1
    have hrow : ro ∉ blkOf w := pw.off g1 (by omega)
    have g2 : H2.get ro = .cells [ptr rp, v] true 0 := by rw [d2.but.get _ (by omega) (by rintro (e | e); exact h.ne e; exact hrow e)]; exact g1
    have ow2 : OwnC H2 11 v F.length (fcells F) := ow1.keep s2 fun b hb => d2.but.get b (ow1.sz hb).2 (by
      rintro (rfl | e)
      · exact ow1.off p1 (by omega) hb
      · obtain ⟨⟨xs, e1⟩, _⟩ := pw.sz e; exact ow1.off e1 (by omega) hb)
    have hm2 : Mem H2 m (.slice a0 n0 c0) := (hm.keep (x1.did (D := D)).kept).keep d2.kept
    obtain ⟨r6, H6, ha6, ow6, s6, k6, b6, d6⟩ := fl_append (p := (⟨c, 2, m⟩, .slice a0 n0 c0)) ow2 hm2 (by omega)
    have g6 : H6.get ro = .cells [ptr rp, v] true 0 := by rw [k6 _ (by omega) (ow2.off g2 (by omega))]; exact g2
    have hst := st_cell (E := E) (t := 50) (o := 1) (v := r6) ty50 rfl g6 (by simp) ow6.shape.1 ow6.shape.2
    rw [show splice [ptr rp, v] 1 [r6] = [ptr rp, r6] from rfl] at hst
    simp (disch := first | assumption | simp) only [↓wbD, wbU, ↓aop, ↓reduceIte, Nat.reduceEqDiff, Nat.reduceLT, reduceCtorEq, goInt, pairs, hG_H1, tup0, tup1, not_bool, Bool.not_true, fa69_1, Nat.zero_add, ld_cell ty50 rfl g2, c1, ld31 z2, build75, bs50, ha6, hst]
    have d7 : Did (fun b => b = ro) H6 (H6.set ro (.cells [ptr rp, r6] true 0)) := did_set rfl (fun cs wr e => by rw [g6] at e; cases e)
    have D7 : Did D H (H6.set ro (.cells [ptr rp, r6] true 0)) := ((x1.did.trans (d2.mono fun b _ hb => .inl (by rcases hb with rfl | hb; exact h.own.2; exact dw b hb))).trans (d6.mono fun b _ hb => .inl (dv b hb))).trans (d7.mono fun b _ hb => .inl (hb ▸ h.own.1))
    have rpv : rp ∉ blkOf v := ow2.off p2 (by omega)
    have kw : ∀ b, b < H2.size → b ∉ blkOf v → b ≠ ro → (H6.set ro (.cells [ptr rp, r6] true 0)).get b = H2.get b := fun b hb h1 h2 => by
      rw [AHeap.get_set_ne _ _ (Ne.symm h2), k6 b hb h1]
    refine ⟨c, F ++ [(⟨c, 2, m⟩, .slice a0 n0 c0)], c, true, rfl, ⟨⟨r6, AHeap.get_set_same _ _ _, ?_, fun b hb => ?_⟩, ⟨w2, ?_, ?_, fun b hb => ?_⟩, ?_, ?_, fun p hp => ?_, ⟨.inl h.own.1, .inl h.own.2⟩, h.ne, ?_⟩, D7, .inl ⟨by simp, rfl, ?_, rfl, by simp⟩⟩
    · exact ow6.keep (by rw [AHeap.size_set]; exact Nat.le_refl _) fun b hb => AHeap.get_set_ne _ _ (by rintro rfl; exact ow6.off g6 (by omega) hb)
    · rcases b6 b hb with hb' | hb'
      · exact .inl (dv b hb')
      · exact .inr ⟨by omega, by rw [AHeap.size_set]; exact (ow6.sz hb).2⟩
    · rw [kw _ (by omega) rpv (Ne.symm h.ne)]; exact p2
    · rw [show ids (F ++ [((⟨c, 2, m⟩ : Fl), Value.slice a0 n0 c0)]) = ids F ++ [c] by simp [ids]]
      refine pw2.keep (by rw [AHeap.size_set]; omega) fun b hb => kw b (pw2.sz hb).2 (fun hv' => ?_) (by rintro rfl; exact pw2.off g2 (by omega) hb)
      obtain ⟨⟨xs, e1⟩, _⟩ := pw2.sz hb
      exact ow2.off e1 (by omega) hv'
    · rcases dw2 b hb with hx | hx
      · exact .inl (dw b hx)
      · exact .inr ⟨by omega, by rw [AHeap.size_set]; omega⟩
    · obtain ⟨j, _, rfl⟩ := hc; have := cand_lo (last := last) (j := j); omega
    · obtain ⟨j, _, rfl⟩ := hc; exact cand_hi
    · rcases List.mem_append.1 hp with hp | hp
      · exact (h.mem p hp).keep D7.kept
      · obtain rfl := List.mem_singleton.1 hp
        exact hm2.keep (d6.kept.trans d7.kept)
    · rintro b (hb | hb)
      · exact Nat.lt_of_lt_of_le (h.lt b hb) D7.size
      · exact hb.2
    · rw [List.map_map]; exact hc
theorem spec13 {H : AHeap} {a : Int} : CallW E 13 [.int .i64 a] H fun r H' => r = .bool (badF a) ∧ H' = H := by
  refine call13 (by simp) ?_
  simp only [strip, bodyOf, Try.f13, getD_body, keepN, bareOp_mk, lessOp_mk, lapp_cons, lapp_nil, List.map_cons, List.map_nil, array_toList, ↓reduceIte, Nat.reduceEqDiff, Bool.false_eq_true]
  by_cases h1 : 128 ≤ a
  · by_cases h2 : a ≤ 255
    · simp (disch := first | assumption | simp) only [↓wbD, wbU, ↓aop, ↓reduceIte, Nat.reduceEqDiff, Nat.reduceLT, reduceCtorEq, goInt, pairs, h1, h2, decide_true]
      simp [badF, h1, h2]
    · simp (disch := first | assumption | simp) only [↓wbD, wbU, ↓aop, ↓reduceIte, Nat.reduceEqDiff, Nat.reduceLT, reduceCtorEq, goInt, pairs, h1, h2, decide_true, decide_false]
      simp [badF, h1, h2]
  · simp (disch := first | assumption | simp) only [↓wbD, wbU, ↓aop, ↓reduceIte, Nat.reduceEqDiff, Nat.reduceLT, reduceCtorEq, goInt, pairs, h1, decide_false]
    simp [badF, h1]
theorem flt_erase {K : List Int} {a : Int} (h : K.Nodup) : flt K a = K.erase a := by
  unfold flt
  rw [List.Nodup.erase_eq_filter h]
  exact List.filter_congr fun x _ => by by_cases hx : x = a <;> simp [hx]
end Go.Proofs.Ytlmcjfnignbdoaa.Abs
