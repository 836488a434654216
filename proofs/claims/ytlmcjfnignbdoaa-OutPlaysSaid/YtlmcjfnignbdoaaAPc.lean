/-
  A part of a law's proof.
-/
import Derived.Test.YtlmcjfnignbdoaaAPb
namespace Go.Proofs.Ytlmcjfnignbdoaa.Abs
open Go AbsYtlmcjfnignbdoaa
set_option maxRecDepth 100000
set_option maxHeartbeats 4000000
set_option linter.unusedSimpArgs false
set_option linter.unusedVariables false
theorem mem_fnew {H : AHeap} {p : Fl × Value} {to : Int} (h : Mem H p.1.m p.2) : Mem H (fnew p to).1.m (fnew p to).2 := h
theorem st75s {H : AHeap} {b : Nat} {p : Fl × Value} {to : Int} (hg : H.get b = .cells (fcell p) true 0) : astore E H 3 (.pointer (some ⟨b, 1, none⟩)) (.int .i64 to) = some (H.set b (.cells (fcell (fnew p to)) true 0)) := by
  have h := st_cell (E := E) (t := 3) (o := 1) (v := .int .i64 to) ty3 rfl hg (show 1 < 11 by omega) rfl rfl
  rw [show splice (fcell p) 1 [.int .i64 to] = fcell (fnew p to) from rfl] at h
  exact h
/-- numbers behind a set -/
def kset (K : List Int) (F : FS) (k : Nat) (to : Int) (i : Nat) : List Int := if to = 0 ∧ k < i then (match F[k]? with | some p => flt K p.1.id | none => K) else K
theorem OutR.own11 {H : AHeap} {D : Nat → Prop} {ro rp : Nat} {last : Int} {F : FS} {K : List Int} (h : OutR H D ro rp last F K) : ∃ v, H.get ro = .cells [ptr rp, v] true 0 ∧ OwnC H 11 v F.length (fcells F) ∧ ∀ b ∈ blkOf v, D b := h.go
/-- one more flight for a list that is made -/
theorem fl_append {H : AHeap} {w : Value} {G : FS} {p : Fl × Value} (ow : OwnC H 11 w G.length (fcells G)) (hp : Mem H p.1.m p.2) (hG : G.length ≤ 200) : ∃ r H', abuiltin E (H.alloc (.cells (fcell p) true 11)) .append [50, 50] [w, .slice (some ⟨H.size, 0, some 1⟩) 1 1] = some (r, H') ∧ OwnC H' 11 r (G ++ [p]).length (fcells (G ++ [p])) ∧ H.size ≤ H'.size ∧
    (∀ b, b < H.size → b ∉ blkOf w → H'.get b = H.get b) ∧ (∀ b ∈ blkOf r, b ∈ blkOf w ∨ H.size ≤ b) ∧ Did (fun b => b ∈ blkOf w) H H' := by
  have x2 : Ext H (H.alloc (.cells (fcell p) true 11)) := Ext.alloc _ _
  have ow2 := ow.keep x2.size fun b hb => x2.get b (ow.sz hb).2
  have hn2 : H.size ∉ blkOf w := fun hb => by have := (ow.sz hb).2; omega
  obtain ⟨r, H3, ha3, ow3, s3, k3, b3⟩ := ow2.append (t := 50) (e := 75) (c := H.size) (ex := some 1) (new := fcell p) ty50 ty75 rfl zero75 rfl (by omega) (by decide) (AHeap.get_alloc_same _ _) hn2 rfl (Mem.onef hp) (by show (_ + 1) * 136 ≤ _; omega)
  have d : Did (fun b => b ∈ blkOf w) H H3 := x2.did.trans (((ow2.did (D := fun b => b ∈ blkOf w) (by omega) s3 k3 fun b hb => hb)).mono fun b _ hb => .inl hb)
  rw [AHeap.size_alloc] at s3 k3 b3
  refine ⟨r, H3, ha3, ?_, by omega, fun b hb hn => ?_, fun b hb => ?_, d⟩
  · rw [fcells, chunk_snoc, List.length_append]; exact ow3
  · rw [k3 b (by omega) hn, x2.get b hb]
  · rcases b3 b hb with h | h
    · exact .inl h
    · exact .inr (by omega)
theorem spec60 {H : AHeap} {D : Nat → Prop} {ro rp : Nat} {last to : Int} {F : FS} {K : List Int} {k : Nat} (h : OutR H D ro rp last F K) (hk : k < F.length) (hF : F.length ≤ 100) (hK : K.length ≤ 100) :
    CallW E 60 [ptr ro, .int .i64 k, .int .i64 to] H fun r H' => OutR H' (Grow D H H') ro rp last (if to = 0 then F.eraseIdx k else F.set k (fnew F[k] to)) (kset K F k to F.length) ∧ Did D H H' := by
  refine call60 (by simp) ?_
  simp only [strip, bodyOf, Try.f60, getD_body, keepN, bareOp_mk, lessOp_mk, lapp_cons, lapp_nil, List.map_cons, List.map_nil, array_toList, ↓reduceIte, Nat.reduceEqDiff, Bool.false_eq_true]
  have c0 : ∀ v : Value, ([ptr rp, v] : List Value)[0]? = some (ptr rp) := fun _ => rfl
  have c1 : ∀ v : Value, ([ptr rp, v] : List Value)[1]? = some v := fun _ => rfl
  simp (disch := first | assumption | simp) only [↓wbD, wbU, ↓aop, ↓reduceIte, Nat.reduceEqDiff, Nat.reduceLT, reduceCtorEq, goInt, pairs]
  refine W_loop (fun f H' => f 0 = ptr ro ∧ f 1 = .int .i64 k ∧ f 2 = .int .i64 to ∧ ∃ (i : Nat) (w : Value) (D' : Nat → Prop), i ≤ F.length ∧ f 7 = .int .i64 i ∧ f 6 = w ∧ OutR H' D' ro rp last F (kset K F k to i) ∧ (∀ b, D' b → Grow D H H' b) ∧ Did D H H' ∧ OwnC H' 11 w (pr F k to i).length (fcells (pr F k to i)) ∧ ∀ b ∈ blkOf w, H.size ≤ b ∧ ¬ D' b) (fun f _ => match f 7 with | .int _ i => F.length - i.toNat | _ => 0) ?_ ?_
  · refine ⟨?_, ?_, ?_, 0, .slice none 0 0, D, by omega, ?_, ?_, ?_, fun b hb => .inl hb, Did.refl, OwnC.nil, by simp [blkOf]⟩
    · simp (disch := first | assumption | simp) only [↓wbD, wbU, ↓aop, ↓reduceIte, Nat.reduceEqDiff, Nat.reduceLT, reduceCtorEq, goInt, pairs]
    · simp (disch := first | assumption | simp) only [↓wbD, wbU, ↓aop, ↓reduceIte, Nat.reduceEqDiff, Nat.reduceLT, reduceCtorEq, goInt, pairs]
    · simp (disch := first | assumption | simp) only [↓wbD, wbU, ↓aop, ↓reduceIte, Nat.reduceEqDiff, Nat.reduceLT, reduceCtorEq, goInt, pairs]
    · simp (disch := first | assumption | simp) only [↓wbD, wbU, ↓aop, ↓reduceIte, Nat.reduceEqDiff, Nat.reduceLT, reduceCtorEq, goInt, pairs]
      rfl
    · simp (disch := first | assumption | simp) only [↓wbD, wbU, ↓aop, ↓reduceIte, Nat.reduceEqDiff, Nat.reduceLT, reduceCtorEq, goInt, pairs]
    · have : kset K F k to 0 = K := by unfold kset; rw [if_neg (by omega)]
      rw [this]; exact h
  rintro f H1 ⟨f0, f1, f2, i, w, D1, hi, f7, f6, o1, hD1, d1, ow, hw⟩
  obtain ⟨v, g1, ov, dv⟩ := o1.go
  have hlen := ov.slice.alen (E := E) (ts := []) ty50
  by_cases hin : (i : Int) < (F.length : Int)
  rotate_left
  · have hie : i = F.length := by omega
    subst hie
    have hst := st_cell (E := E) (t := 50) (o := 1) (v := w) ty50 rfl g1 (by simp) ow.shape.1 ow.shape.2
    rw [show splice [ptr rp, v] 1 [w] = [ptr rp, w] from rfl] at hst
    simp (disch := first | assumption | simp) only [↓wbD, wbU, ↓aop, ↓reduceIte, Nat.reduceEqDiff, Nat.reduceLT, reduceCtorEq, goInt, pairs, f0, f6, f7, fa69_1, Nat.zero_add, ld_cell ty50 rfl g1, c1, hlen, hin, decide_false, hst]
    have hds : Did D1 H1 (H1.set ro (.cells [ptr rp, w] true 0)) := did_set o1.own.1 (fun cs wr e => by rw [g1] at e; cases e)
    have D2 : Did D H (H1.set ro (.cells [ptr rp, w] true 0)) := d1.trans (hds.mono fun b _ hb => hD1 b hb)
    obtain ⟨w', p1, p2, p3⟩ := o1.gp
    have hrow : ro ∉ blkOf w := ow.off g1 (by omega)
    have hrow' : ro ∉ blkOf w' := p2.off g1 (by omega)
    rw [pr_all hk to] at ow
    refine ⟨⟨⟨w, AHeap.get_set_same _ _ _, ow.keep (by rw [AHeap.size_set]; exact Nat.le_refl _) fun b hb => AHeap.get_set_ne _ _ (by rintro rfl; exact hrow hb), fun b hb => .inr ⟨(hw b hb).1, by rw [AHeap.size_set]; exact (ow.sz hb).2⟩⟩, ⟨w', ?_, p2.keep (by rw [AHeap.size_set]; exact Nat.le_refl _) fun b hb => AHeap.get_set_ne _ _ (by rintro rfl; exact hrow' hb), fun b hb => ?_⟩, h.lo, h.hi, ?_, ⟨.inl h.own.1, .inl h.own.2⟩, h.ne, ?_⟩, D2⟩
    · rw [AHeap.get_set_ne _ _ h.ne]; exact p1
    · rcases hD1 b (p3 b hb) with hx | hx
      · exact .inl hx
      · exact .inr ⟨hx.1, by rw [AHeap.size_set]; exact hx.2⟩
    · have := (pr_mem (k := k) (to := to) h.mem F.length)
      rw [pr_all hk to] at this
      exact this.keep D2.kept
    · rintro b (hb | hb)
      · exact Nat.lt_of_lt_of_le (h.lt b hb) D2.size
      · exact hb.2
  have hiF : i < F.length := by omega
  obtain ⟨b, c, ex, sp, hve, hg, hb⟩ := own_at ov hiF
  have hia := ia_slice (E := E) ty50 ty75 (B := b) (o := 0) (c := c) (ex := ex) (k := .i64) hiF
  rw [← hve] at hia
  have hpm : Mem H1 (F[i]).1.m (F[i]).2 := o1.mem _ (List.getElem_mem hiF)
  have hst := st75 (p := F[i]) (AHeap.get_alloc_same H1 (.cells z75 true 0)) rfl (Mem.onef hpm)
  obtain ⟨x2, s2, z2⟩ := new_set (H := H1) (o := .cells z75 true 0) (o' := .cells (fcell F[i]) true 0)
  have hw' := wrap_nat (n := i) (by omega)
  have hpl := pr_len (F := F) (k := k) (to := to) i
  generalize hH2 : (H1.alloc (.cells z75 true 0)).set H1.size (.cells (fcell F[i]) true 0) = H2 at hst x2 s2 z2
  have o2 : OutR H2 D1 ro rp last F (kset K F k to i) := o1.keep (S := fun _ => False) x2.did fun _ _ hf => hf
  have d2 : Did D H H2 := d1.trans x2.did
  have hD2 : ∀ b, D1 b → Grow D H H2 b := fun b hb => (hD1 b hb).elim .inl fun hx => .inr ⟨hx.1, by omega⟩
  have ow2 : OwnC H2 11 w (pr F k to i).length (fcells (pr F k to i)) := ow.keep x2.size fun b hb => x2.get b (ow.sz hb).2
  have s1 := d1.size
  by_cases hik : i = k
  rotate_left
  · -- not the one
    have hne : ¬ (i : Int) = (k : Int) := by omega
    have hks : kset K F k to (i + 1) = kset K F k to i := by
      unfold kset
      by_cases hc : to = 0 ∧ k < i
      · rw [if_pos hc, if_pos ⟨hc.1, by omega⟩]
      · rw [if_neg hc, if_neg (by rintro ⟨h1, h2⟩; exact hc ⟨h1, by omega⟩)]
    have hpr : pr F k to (i + 1) = pr F k to i ++ [F[i]] := by simp only [pr, List.getElem?_eq_getElem hiF, if_neg hik]
    obtain ⟨r, H3, ha, ow3, s3, k3, b3, d3⟩ := fl_append (p := F[i]) ow2 (hpm.keep (x2.did (D := D)).kept) (by omega)
    simp (disch := first | assumption | simp) only [↓wbD, wbU, ↓aop, ↓reduceIte, Nat.reduceEqDiff, Nat.reduceLT, reduceCtorEq, goInt, pairs, f0, f1, f6, f7, fa69_1, Nat.zero_add, ld_cell ty50 rfl g1, c1, hlen, hin, decide_true, hia, ld75 hg hiF, zero75m, hst, hne, decide_false, ldbox75 z2, bs50, ha, hw']
    refine ⟨_, rfl, ⟨?_, ?_, ?_, i + 1, r, D1, by omega, ?_, ?_, ?_, fun b hb => ?_, d2.trans (d3.mono fun b hb hx => .inr ⟨(hw b hx).1, hb⟩), ?_, fun b hb => ?_⟩, ?_⟩
    · simp (disch := first | assumption | simp) only [↓wbD, wbU, ↓aop, ↓reduceIte, Nat.reduceEqDiff, Nat.reduceLT, reduceCtorEq, goInt, pairs, f0]
    · simp (disch := first | assumption | simp) only [↓wbD, wbU, ↓aop, ↓reduceIte, Nat.reduceEqDiff, Nat.reduceLT, reduceCtorEq, goInt, pairs, f1]
    · simp (disch := first | assumption | simp) only [↓wbD, wbU, ↓aop, ↓reduceIte, Nat.reduceEqDiff, Nat.reduceLT, reduceCtorEq, goInt, pairs, f2]
    · simp (disch := first | assumption | simp) only [↓wbD, wbU, ↓aop, ↓reduceIte, Nat.reduceEqDiff, Nat.reduceLT, reduceCtorEq, goInt, pairs]
    · simp (disch := first | assumption | simp) only [↓wbD, wbU, ↓aop, ↓reduceIte, Nat.reduceEqDiff, Nat.reduceLT, reduceCtorEq, goInt, pairs]
    · rw [hks]; exact o2.keep d3 fun b hb hx => (hw b hx).2 hb
    · exact (hD2 b hb).elim .inl fun hx => .inr ⟨hx.1, by omega⟩
    · rw [hpr]; exact ow3
    · rcases b3 b hb with hx | hx
      · exact hw b hx
      · exact ⟨by omega, fun hD => by have := o2.lt b hD; omega⟩
    · simp (disch := first | assumption | simp) only [↓wbD, wbU, ↓aop, ↓reduceIte, Nat.reduceEqDiff, Nat.reduceLT, reduceCtorEq, goInt, pairs, f7]
      simp; omega
  subst hik
  have st2 := st75s (to := to) z2
  have z3 : (H2.set H1.size (.cells (fcell (fnew F[i] to)) true 0)).get H1.size = .cells (fcell (fnew F[i] to)) true 0 := AHeap.get_set_same _ _ _
  have y3 : Did (fun b => b = H1.size) H2 (H2.set H1.size (.cells (fcell (fnew F[i] to)) true 0)) := did_set rfl (fun cs wr e => by rw [z2] at e; cases e)
  have s3 : (H2.set H1.size (.cells (fcell (fnew F[i] to)) true 0)).size = H2.size := AHeap.size_set _ _ _
  generalize H2.set H1.size (.cells (fcell (fnew F[i] to)) true 0) = H3 at st2 z3 y3 s3
  have o3 : OutR H3 D1 ro rp last F (kset K F i to i) := o2.keep y3 fun b hb hx => by have := o1.lt b hb; omega
  have d3 : Did D H H3 := d2.trans (y3.mono fun b _ hb => .inr ⟨by omega, by omega⟩)
  have hD3 : ∀ b, D1 b → Grow D H H3 b := fun b hb => (hD2 b hb).elim .inl fun hx => .inr ⟨hx.1, by omega⟩
  have ow3 : OwnC H3 11 w (pr F i to i).length (fcells (pr F i to i)) := ow2.keep (by omega) fun b hb => y3.but.get b (ow2.sz hb).2 (by rintro rfl; exact ow2.off z2 (by omega) hb)
  have hk0 : kset K F i to i = K := by unfold kset; rw [if_neg (by omega)]
  rw [hk0] at o3
  by_cases ht : to = 0
  · subst ht
    obtain ⟨v3, g3, _⟩ := o3.go
    obtain ⟨w', p1, p2, p3⟩ := o3.gp
    have q0 : (fcell (fnew F[i] 0))[0]? = some (.int .i64 (F[i]).1.id) := rfl
    simp (disch := first | assumption | simp) only [↓wbD, wbU, ↓aop, ↓reduceIte, Nat.reduceEqDiff, Nat.reduceLT, reduceCtorEq, goInt, pairs, f0, f1, f2, f6, f7, fa69_0, fa69_1, fa75_0, fa75_1, Nat.zero_add, Nat.add_zero, ld_cell ty50 rfl g1, c0, c1, hlen, hin, decide_true, hia, ld75 hg hiF, zero75m, hst, hH2, st2, ld_cell ty67 rfl g3, ld_cell ty3 rfl z3, q0]
    refine (spec61 p1 (o3.lt _ o3.own.2) p2 hK).mono ?_
    rintro r H4 ⟨w4, g4, ow4, bw4, d4⟩
    have s4 := d4.size
    simp (disch := first | assumption | simp) only [↓wbD, wbU, ↓aop, ↓reduceIte, Nat.reduceEqDiff, Nat.reduceLT, reduceCtorEq, goInt, pairs, f7, hw']
    have hrw : ∀ b ∈ blkOf w, b ≠ rp := fun b hb e => (hw b hb).2 (e ▸ o3.own.2)
    refine ⟨_, rfl, ⟨?_, ?_, ?_, i + 1, w, Grow D1 H3 H4, by omega, ?_, ?_, ?_, fun b hb => ?_, d3.trans (d4.mono fun b _ hb => hD3 b (hb ▸ o3.own.2)), ?_, fun b hb => ?_⟩, ?_⟩
    · simp (disch := first | assumption | simp) only [↓wbD, wbU, ↓aop, ↓reduceIte, Nat.reduceEqDiff, Nat.reduceLT, reduceCtorEq, goInt, pairs, f0]
    · simp (disch := first | assumption | simp) only [↓wbD, wbU, ↓aop, ↓reduceIte, Nat.reduceEqDiff, Nat.reduceLT, reduceCtorEq, goInt, pairs, f1]
    · simp (disch := first | assumption | simp) only [↓wbD, wbU, ↓aop, ↓reduceIte, Nat.reduceEqDiff, Nat.reduceLT, reduceCtorEq, goInt, pairs, f2]
    · simp (disch := first | assumption | simp) only [↓wbD, wbU, ↓aop, ↓reduceIte, Nat.reduceEqDiff, Nat.reduceLT, reduceCtorEq, goInt, pairs]
    · simp (disch := first | assumption | simp) only [↓wbD, wbU, ↓aop, ↓reduceIte, Nat.reduceEqDiff, Nat.reduceLT, reduceCtorEq, goInt, pairs, f6]
    · have hks : kset K F i 0 (i + 1) = flt K (F[i]).1.id := by
        unfold kset; rw [if_pos ⟨rfl, by omega⟩, List.getElem?_eq_getElem hiF]
      rw [hks]
      obtain ⟨v3', g3', ov3, dv3⟩ := o3.go
      have hrov : rp ∉ blkOf v3' := ov3.off p1 (by omega)
      exact ⟨⟨v3', by rw [d4.but.get _ (o3.lt _ o3.own.1) h.ne]; exact g3', ov3.keep s4 fun b hb => d4.but.get b (ov3.sz hb).2 (by rintro rfl; exact hrov hb), fun b hb => .inl (dv3 b hb)⟩, ⟨w4, g4, ow4, fun b hb => .inr (bw4 b hb)⟩, h.lo, h.hi, o3.mem.keep d4.kept, ⟨.inl o3.own.1, .inl o3.own.2⟩, h.ne, fun b hb => hb.elim (fun hx => Nat.lt_of_lt_of_le (o3.lt b hx) s4) (·.2)⟩
    · rcases hb with hb | hb
      · exact (hD3 b hb).elim .inl fun hx => .inr ⟨hx.1, by omega⟩
      · exact .inr ⟨by omega, hb.2⟩
    · have hpr : pr F i 0 (i + 1) = pr F i 0 i := by simp [pr, List.getElem?_eq_getElem hiF]
      rw [hpr]; exact ow3.keep s4 fun b hb => d4.but.get b (ow3.sz hb).2 (hrw b hb)
    · refine ⟨(hw b hb).1, ?_⟩
      rintro (hx | hx)
      · exact (hw b hb).2 hx
      · have := (ow3.sz hb).2; omega
    · simp (disch := first | assumption | simp) only [↓wbD, wbU, ↓aop, ↓reduceIte, Nat.reduceEqDiff, Nat.reduceLT, reduceCtorEq, goInt, pairs, f7]
      simp; omega
  · have hpr : pr F i to (i + 1) = pr F i to i ++ [fnew F[i] to] := by simp only [pr, List.getElem?_eq_getElem hiF, if_true, if_neg ht]
    have hks : kset K F i to (i + 1) = K := by unfold kset; rw [if_neg (fun hh => ht hh.1)]
    have hpm3 : Mem H3 (fnew F[i] to).1.m (fnew F[i] to).2 := mem_fnew ((hpm.keep (x2.did (D := D)).kept).keep y3.kept)
    obtain ⟨r, H4, ha, ow4, s4, k4, b4, d4⟩ := fl_append (p := fnew F[i] to) ow3 hpm3 (by omega)
    simp (disch := first | assumption | simp) only [↓wbD, wbU, ↓aop, ↓reduceIte, Nat.reduceEqDiff, Nat.reduceLT, reduceCtorEq, goInt, pairs, f0, f1, f2, f6, f7, fa69_0, fa69_1, fa75_0, fa75_1, Nat.zero_add, Nat.add_zero, ld_cell ty50 rfl g1, c0, c1, hlen, hin, decide_true, hia, ld75 hg hiF, zero75m, hst, hH2, st2, ht, decide_false, ldbox75 z3, bs50, ha, hw']
    refine ⟨_, rfl, ⟨?_, ?_, ?_, i + 1, r, D1, by omega, ?_, ?_, ?_, fun b hb => ?_, d3.trans (d4.mono fun b hb hx => .inr ⟨(hw b hx).1, hb⟩), ?_, fun b hb => ?_⟩, ?_⟩
    · simp (disch := first | assumption | simp) only [↓wbD, wbU, ↓aop, ↓reduceIte, Nat.reduceEqDiff, Nat.reduceLT, reduceCtorEq, goInt, pairs, f0]
    · simp (disch := first | assumption | simp) only [↓wbD, wbU, ↓aop, ↓reduceIte, Nat.reduceEqDiff, Nat.reduceLT, reduceCtorEq, goInt, pairs, f1]
    · simp (disch := first | assumption | simp) only [↓wbD, wbU, ↓aop, ↓reduceIte, Nat.reduceEqDiff, Nat.reduceLT, reduceCtorEq, goInt, pairs, f2]
    · simp (disch := first | assumption | simp) only [↓wbD, wbU, ↓aop, ↓reduceIte, Nat.reduceEqDiff, Nat.reduceLT, reduceCtorEq, goInt, pairs]
    · simp (disch := first | assumption | simp) only [↓wbD, wbU, ↓aop, ↓reduceIte, Nat.reduceEqDiff, Nat.reduceLT, reduceCtorEq, goInt, pairs]
    · rw [hks]; exact o3.keep d4 fun b hb hx => (hw b hx).2 hb
    · exact (hD3 b hb).elim .inl fun hx => .inr ⟨hx.1, by omega⟩
    · rw [hpr]; exact ow4
    · rcases b4 b hb with hx | hx
      · exact hw b hx
      · exact ⟨by omega, fun hD => by have := o3.lt b hD; omega⟩
    · simp (disch := first | assumption | simp) only [↓wbD, wbU, ↓aop, ↓reduceIte, Nat.reduceEqDiff, Nat.reduceLT, reduceCtorEq, goInt, pairs, f7]
      simp; omega
end Go.Proofs.Ytlmcjfnignbdoaa.Abs
