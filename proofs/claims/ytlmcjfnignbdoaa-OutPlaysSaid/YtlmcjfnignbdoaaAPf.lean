/-
  A part of a law's proof.
-/
import Derived.Test.YtlmcjfnignbdoaaAPe
namespace Go.Proofs.Ytlmcjfnignbdoaa.Abs
open Go AbsYtlmcjfnignbdoaa
set_option maxRecDepth 100000
set_option maxHeartbeats 8000000
set_option linter.unusedSimpArgs false
set_option linter.unusedVariables false
theorem msg_append {H : AHeap} {w : Value} {G : List (Msg × Value)} {p : Msg × Value} (ow : OwnC H 9 w G.length (mcells G)) (hp : Mem H p.1 p.2) (hG : G.length ≤ 200) : ∃ r H', abuiltin E (H.alloc (.cells (mcell p) true 9)) .append [63, 63] [w, .slice (some ⟨H.size, 0, some 1⟩) 1 1] = some (r, H') ∧ OwnC H' 9 r (G ++ [p]).length (mcells (G ++ [p])) ∧ H.size ≤ H'.size ∧
    (∀ b, b < H.size → b ∉ blkOf w → H'.get b = H.get b) ∧ (∀ b ∈ blkOf r, b ∈ blkOf w ∨ H.size ≤ b) ∧ Did (fun b => b ∈ blkOf w) H H' := by
  have x2 : Ext H (H.alloc (.cells (mcell p) true 9)) := Ext.alloc _ _
  have ow2 := ow.keep x2.size fun b hb => x2.get b (ow.sz hb).2
  have hn2 : H.size ∉ blkOf w := fun hb => by have := (ow.sz hb).2; omega
  obtain ⟨r, H3, ha3, ow3, s3, k3, b3⟩ := ow2.append (t := 63) (e := 31) (c := H.size) (ex := some 1) (new := mcell p) ty63 ty31 rfl zero31m rfl (by omega) (by decide) (AHeap.get_alloc_same _ _) hn2 rfl hp.one (by show (_ + 1) * 120 ≤ _; omega)
  have d : Did (fun b => b ∈ blkOf w) H H3 := x2.did.trans (((ow2.did (D := fun b => b ∈ blkOf w) (by omega) s3 k3 fun b hb => hb)).mono fun b _ hb => .inl hb)
  rw [AHeap.size_alloc] at s3 k3 b3
  refine ⟨r, H3, ha3, ?_, by omega, fun b hb hn => ?_, fun b hb => ?_, d⟩
  · rw [mcells, chunk_snoc, List.length_append]; exact ow3
  · rw [k3 b (by omega) hn, x2.get b hb]
  · rcases b3 b hb with h | h
    · exact .inl h
    · exact .inr (by omega)
theorem erase_here {K L : List Int} {a : Int} (h : (K ++ a :: L).Nodup) : flt (K ++ a :: L) a = K ++ L := by
  rw [flt_erase h]
  have ha : a ∉ K := fun hm => by
    rw [List.nodup_append] at h
    exact h.2.2 a hm a (by simp) rfl
  rw [List.erase_append_right _ ha, List.erase_cons_head]
theorem spec36 {H : AHeap} {D : Nat → Prop} {ro rp : Nat} {last : Int} {F : FS} (h : OutR H D ro rp last F (ids F)) (hF : F.length ≤ 100) (hgd : Good (F.map (·.1))) :
    CallW E 36 [ptr ro] H fun r H' => ∃ F' G, OutR H' (Grow D H H') ro rp last F' (ids F') ∧ Did D H H' ∧ OwnC H' 9 r G.length (mcells G) ∧ (∀ p ∈ G, Mem H' p.1 p.2) ∧ (∀ b ∈ blkOf r, H.size ≤ b) ∧ groupF (F.map (·.1)) = (G.map (·.1), F'.map (·.1)) := by
  refine call36 (by simp) ?_
  simp only [strip, bodyOf, Try.f36, getD_body, keepN, bareOp_mk, lessOp_mk, lapp_cons, lapp_nil, List.map_cons, List.map_nil, array_toList, ↓reduceIte, Nat.reduceEqDiff, Bool.false_eq_true]
  have c0 : ∀ v : Value, ([ptr rp, v] : List Value)[0]? = some (ptr rp) := fun _ => rfl
  have c1 : ∀ v : Value, ([ptr rp, v] : List Value)[1]? = some v := fun _ => rfl
  simp (disch := first | assumption | simp) only [↓wbD, wbU, ↓aop, ↓reduceIte, Nat.reduceEqDiff, Nat.reduceLT, reduceCtorEq, goInt, pairs]
  refine W_loop (fun f H' => f 0 = ptr ro ∧ ∃ (i : Nat) (w3 w4 : Value) (G : List (Msg × Value)) (F4 : FS) (D' : Nat → Prop), i ≤ F.length ∧ f 5 = .int .i64 i ∧ f 3 = w3 ∧ f 4 = w4 ∧ OutR H' D' ro rp last F (ids F4 ++ ids (F.drop i)) ∧ (∀ b, D' b → Grow D H H' b) ∧ Did D H H' ∧
    F4 = (F.take i).filter (fun p => stays p.1) ∧ G = ((F.take i).filter (fun p => !stays p.1)).map (fun p => (p.1.m, p.2)) ∧ OwnC H' 9 w3 G.length (mcells G) ∧ OwnC H' 11 w4 F4.length (fcells F4) ∧ (∀ b ∈ blkOf w3, H.size ≤ b ∧ ¬ D' b) ∧ ∀ b ∈ blkOf w4, H.size ≤ b ∧ ¬ D' b) (fun f _ => match f 5 with | .int _ i => F.length - i.toNat | _ => 0) ?_ ?_
  · refine ⟨?_, 0, .slice none 0 0, .slice none 0 0, [], [], D, by omega, ?_, ?_, ?_, by simpa using h, fun b hb => .inl hb, Did.refl, rfl, rfl, OwnC.nil, OwnC.nil, by simp [blkOf], by simp [blkOf]⟩
    · simp (disch := first | assumption | simp) only [↓wbD, wbU, ↓aop, ↓reduceIte, Nat.reduceEqDiff, Nat.reduceLT, reduceCtorEq, goInt, pairs]
    · simp (disch := first | assumption | simp) only [↓wbD, wbU, ↓aop, ↓reduceIte, Nat.reduceEqDiff, Nat.reduceLT, reduceCtorEq, goInt, pairs]
      rfl
    · simp (disch := first | assumption | simp) only [↓wbD, wbU, ↓aop, ↓reduceIte, Nat.reduceEqDiff, Nat.reduceLT, reduceCtorEq, goInt, pairs]
    · simp (disch := first | assumption | simp) only [↓wbD, wbU, ↓aop, ↓reduceIte, Nat.reduceEqDiff, Nat.reduceLT, reduceCtorEq, goInt, pairs]
  rintro f H1 ⟨f0, i, w3, w4, G, F4, D1, hi, f5, f3, f4, o1, hD1, d1, hF4, hG, ow3, ow4, b3, b4⟩
  obtain ⟨v, g1, ov, dv⟩ := o1.go
  have hlen := ov.slice.alen (E := E) (ts := []) ty50
  have hl4 : F4.length ≤ i := by rw [hF4]; exact Nat.le_trans (List.length_filter_le _ _) (by rw [List.length_take]; omega)
  have hlG : G.length ≤ i := by rw [hG, List.length_map]; exact Nat.le_trans (List.length_filter_le _ _) (by rw [List.length_take]; omega)
  have s1 := d1.size
  by_cases hin : (i : Int) < (F.length : Int)
  rotate_left
  · have hie : i = F.length := by omega
    subst hie
    rw [List.take_length] at hF4 hG
    rw [List.drop_length] at o1
    have hst := st_cell (E := E) (t := 50) (o := 1) (v := w4) ty50 rfl g1 (by simp) ow4.shape.1 ow4.shape.2
    rw [show splice [ptr rp, v] 1 [w4] = [ptr rp, w4] from rfl] at hst
    simp (disch := first | assumption | simp) only [↓wbD, wbU, ↓aop, ↓reduceIte, Nat.reduceEqDiff, Nat.reduceLT, reduceCtorEq, goInt, pairs, f0, f3, f4, f5, fa69_1, Nat.zero_add, ld_cell ty50 rfl g1, c1, hlen, hin, decide_false, hst]
    have hds : Did D1 H1 (H1.set ro (.cells [ptr rp, w4] true 0)) := did_set o1.own.1 (fun cs wr e => by rw [g1] at e; cases e)
    have D2 : Did D H (H1.set ro (.cells [ptr rp, w4] true 0)) := d1.trans (hds.mono fun b _ hb => hD1 b hb)
    obtain ⟨w', p1, p2, p3⟩ := o1.gp
    have hk : ∀ b, b ≠ ro → (H1.set ro (.cells [ptr rp, w4] true 0)).get b = H1.get b := fun b hb => AHeap.get_set_ne _ _ (Ne.symm hb)
    have hsz : (H1.set ro (.cells [ptr rp, w4] true 0)).size = H1.size := AHeap.size_set _ _ _
    refine ⟨F4, G, ⟨⟨w4, AHeap.get_set_same _ _ _, ow4.keep (by omega) fun b hb => hk b (by rintro rfl; exact ow4.off g1 (by omega) hb), fun b hb => .inr ⟨(b4 b hb).1, by rw [hsz]; exact (ow4.sz hb).2⟩⟩, ⟨w', ?_, ?_, fun b hb => ?_⟩, h.lo, h.hi, ?_, ⟨.inl h.own.1, .inl h.own.2⟩, h.ne, ?_⟩, D2, ow3.keep (by omega) fun b hb => hk b (by rintro rfl; exact ow3.off g1 (by omega) hb), ?_, fun b hb => (b3 b hb).1, ?_⟩
    · rw [hk _ (Ne.symm h.ne)]; exact p1
    · simp only [ids, List.map_nil, List.append_nil] at p2
      exact p2.keep (by omega) fun b hb => hk b (by rintro rfl; exact p2.off g1 (by omega) hb)
    · rcases hD1 b (p3 b hb) with hx | hx
      · exact .inl hx
      · exact .inr ⟨hx.1, by rw [hsz]; exact hx.2⟩
    · intro p hp
      rw [hF4] at hp
      exact (h.mem p ((List.mem_filter.1 hp).1)).keep D2.kept
    · rintro b (hb | hb)
      · exact Nat.lt_of_lt_of_le (h.lt b hb) D2.size
      · exact hb.2
    · intro p hp
      rw [hG] at hp
      obtain ⟨q, hq, rfl⟩ := List.mem_map.1 hp
      exact (h.mem q ((List.mem_filter.1 hq).1)).keep D2.kept
    · unfold groupF
      rw [hG, hF4, List.filter_map, List.filter_map, List.map_map, List.map_map]
      rfl
  have hiF : i < F.length := by omega
  obtain ⟨b, c, ex, sp, hve, hg, hb⟩ := own_at ov hiF
  have hia := ia_slice (E := E) ty50 ty75 (B := b) (o := 0) (c := c) (ex := ex) (k := .i64) hiF
  rw [← hve] at hia
  have hpm : Mem H1 (F[i]).1.m (F[i]).2 := o1.mem _ (List.getElem_mem hiF)
  have hst := st75 (p := F[i]) (AHeap.get_alloc_same H1 (.cells z75 true 0)) rfl (Mem.onef hpm)
  obtain ⟨x2, s2, z2⟩ := new_set (H := H1) (o := .cells z75 true 0) (o' := .cells (fcell F[i]) true 0)
  have hw' := wrap_nat (n := i) (by omega)
  have q0 : (fcell F[i])[0]? = some (.int .i64 (F[i]).1.id) := rfl
  have q1 : (fcell F[i])[1]? = some (.int .i64 (F[i]).1.st) := rfl
  have q10 : (fcell F[i])[10]? = some (.string (F[i]).1.m.g) := rfl
  generalize hH2 : (H1.alloc (.cells z75 true 0)).set H1.size (.cells (fcell F[i]) true 0) = H2 at hst x2 s2 z2
  have o2 : OutR H2 D1 ro rp last F (ids F4 ++ ids (F.drop i)) := o1.keep (S := fun _ => False) x2.did fun _ _ hf => hf
  have d2 : Did D H H2 := d1.trans x2.did
  have hD2 : ∀ b, D1 b → Grow D H H2 b := fun b hb => (hD1 b hb).elim .inl fun hx => .inr ⟨hx.1, by omega⟩
  have ow3' := ow3.keep x2.size fun b hb => x2.get b (ow3.sz hb).2
  have ow4' := ow4.keep x2.size fun b hb => x2.get b (ow4.sz hb).2
  have hpm2 : Mem H2 (F[i]).1.m (F[i]).2 := hpm.keep (x2.did (D := D)).kept
  have hts := take_snoc hiF
  have hdr : ids (F.drop i) = (F[i]).1.id :: ids (F.drop (i + 1)) := by rw [List.drop_eq_getElem_cons hiF]; rfl
  have hsm : (F[i]).1 ∈ F.map (·.1) := List.mem_map.2 ⟨_, List.getElem_mem hiF, rfl⟩
  have hst3 := hgd.st _ hsm
  have hwx : ∀ b ∈ blkOf w3, b ∉ blkOf w4 := fun b hb hb' => by
    obtain ⟨⟨xs, e1⟩, _⟩ := ow3.sz hb
    exact ow4.off e1 (by omega) hb'
  by_cases hstay : stays (F[i]).1 = true
  · have hF4' : F4 ++ [F[i]] = (F.take (i + 1)).filter (fun p => stays p.1) := by
      rw [hts, List.filter_append, hF4, List.filter_cons_of_pos (by simpa using hstay)]; rfl
    have hG' : G = ((F.take (i + 1)).filter (fun p => !stays p.1)).map (fun p => (p.1.m, p.2)) := by
      rw [hts, List.filter_append, List.filter_cons_of_neg (by simp [hstay]), hG]; simp
    have hK' : ids F4 ++ ids (F.drop i) = ids (F4 ++ [F[i]]) ++ ids (F.drop (i + 1)) := by rw [hdr]; simp [ids]
    obtain ⟨r, H3, ha, ow5, s3, k3, b5, d3⟩ := fl_append (p := F[i]) ow4' hpm2 (by omega)
    have e3 : (F[i]).1.st = 3 ∨ (F[i]).1.m.g = ⟨#[]⟩ := by simpa [stays] using hstay
    have back : ∃ (i' : Nat) (w3' w4' : Value) (G' : List (Msg × Value)) (F4' : FS) (D' : Nat → Prop), i' ≤ F.length ∧ Value.int .i64 ((i + 1 : Nat) : Int) = .int .i64 (i' : Int) ∧ w3 = w3' ∧ r = w4' ∧ OutR H3 D' ro rp last F (ids F4' ++ ids (F.drop i')) ∧ (∀ b, D' b → Grow D H H3 b) ∧ Did D H H3 ∧
        F4' = (F.take i').filter (fun p => stays p.1) ∧ G' = ((F.take i').filter (fun p => !stays p.1)).map (fun p => (p.1.m, p.2)) ∧ OwnC H3 9 w3' G'.length (mcells G') ∧ OwnC H3 11 w4' F4'.length (fcells F4') ∧ (∀ b ∈ blkOf w3', H.size ≤ b ∧ ¬ D' b) ∧ ∀ b ∈ blkOf w4', H.size ≤ b ∧ ¬ D' b := by
      refine ⟨i + 1, w3, r, G, F4 ++ [F[i]], D1, by omega, rfl, rfl, rfl, ?_, fun b hb => ?_, d2.trans (d3.mono fun b hb hx => .inr ⟨(b4 b hx).1, hb⟩), hF4', hG', ow3'.keep s3 fun b hb => k3 b (ow3'.sz hb).2 (hwx b hb), ow5, b3, fun b hb => ?_⟩
      · rw [← hK']; exact o2.keep d3 fun b hb hx => (b4 b hx).2 hb
      · exact (hD2 b hb).elim .inl fun hx => .inr ⟨hx.1, by omega⟩
      · rcases b5 b hb with hx | hx
        · exact b4 b hx
        · exact ⟨by omega, fun hD => by have := o2.lt b hD; omega⟩
    by_cases h3 : (F[i]).1.st = 3
    · have hlt3 : ¬ (F[i]).1.st < 3 := by omega
      simp (disch := first | assumption | simp) only [↓wbD, wbU, ↓aop, ↓reduceIte, Nat.reduceEqDiff, Nat.reduceLT, reduceCtorEq, goInt, pairs, f0, f4, f5, fa69_1, fa75_1, Nat.zero_add, ld_cell ty50 rfl g1, c1, hlen, hin, decide_true, hia, ld75 hg hiF, zero75m, hst, ld_cell ty3 rfl z2, q1, hlt3, decide_false, ldbox75 z2, bs50, ha, hw']
      refine ⟨_, rfl, ⟨?_, ?_⟩, ?_⟩
      · simp (disch := first | assumption | simp) only [↓wbD, wbU, ↓aop, ↓reduceIte, Nat.reduceEqDiff, Nat.reduceLT, reduceCtorEq, goInt, pairs, f0]
      · simp (disch := first | assumption | simp) only [↓wbD, wbU, ↓aop, ↓reduceIte, Nat.reduceEqDiff, Nat.reduceLT, reduceCtorEq, goInt, pairs, f3]
        exact back
      · simp (disch := first | assumption | simp) only [↓wbD, wbU, ↓aop, ↓reduceIte, Nat.reduceEqDiff, Nat.reduceLT, reduceCtorEq, goInt, pairs, f5]
        simp; omega
    · have hg0 := e3.resolve_left h3
      have hlt3 : (F[i]).1.st < 3 := by omega
      simp (disch := first | assumption | simp) only [↓wbD, wbU, ↓aop, ↓reduceIte, Nat.reduceEqDiff, Nat.reduceLT, reduceCtorEq, goInt, pairs, f0, f4, f5, fa69_1, fa75_1, fa75_2, fa31_8, Nat.zero_add, Nat.reduceAdd, ld_cell ty50 rfl g1, c1, hlen, hin, decide_true, hia, ld75 hg hiF, zero75m, hst, ld_cell ty3 rfl z2, ld_cell ty9 rfl z2, q1, q10, hlt3, hg0, AbsYtlmcjfnignbdoaa.str_neq', not_true_eq_false, decide_false, ldbox75 z2, bs50, ha, hw']
      refine ⟨_, rfl, ⟨?_, ?_⟩, ?_⟩
      · simp (disch := first | assumption | simp) only [↓wbD, wbU, ↓aop, ↓reduceIte, Nat.reduceEqDiff, Nat.reduceLT, reduceCtorEq, goInt, pairs, f0]
      · simp (disch := first | assumption | simp) only [↓wbD, wbU, ↓aop, ↓reduceIte, Nat.reduceEqDiff, Nat.reduceLT, reduceCtorEq, goInt, pairs, f3]
        exact back
      · simp (disch := first | assumption | simp) only [↓wbD, wbU, ↓aop, ↓reduceIte, Nat.reduceEqDiff, Nat.reduceLT, reduceCtorEq, goInt, pairs, f5]
        simp; omega
  · have e3 : ¬ (F[i]).1.st = 3 := fun e => hstay (by simp [stays, e])
    have eg : ¬ (F[i]).1.m.g = ⟨#[]⟩ := fun e => hstay (by simp [stays, e])
    have hlt3 : (F[i]).1.st < 3 := by omega
    have hF4' : F4 = (F.take (i + 1)).filter (fun p => stays p.1) := by
      rw [hts, List.filter_append, hF4, List.filter_cons_of_neg (by simpa using hstay)]; simp
    have hG' : G ++ [((F[i]).1.m, (F[i]).2)] = ((F.take (i + 1)).filter (fun p => !stays p.1)).map (fun p => (p.1.m, p.2)) := by
      rw [hts, List.filter_append, List.filter_cons_of_pos (by simpa using hstay), hG]; simp
    obtain ⟨r, H3, ha, ow5, s3, k3, b5, d3⟩ := msg_append (p := ((F[i]).1.m, (F[i]).2)) ow3' hpm2 (by omega)
    have o3 : OutR H3 D1 ro rp last F (ids F4 ++ ids (F.drop i)) := o2.keep d3 fun b hb hx => (b3 b hx).2 hb
    have D3 : Did D H H3 := d2.trans (d3.mono fun b hb hx => .inr ⟨(b3 b hx).1, hb⟩)
    have hD3 : ∀ b, D1 b → Grow D H H3 b := fun b hb => (hD2 b hb).elim .inl fun hx => .inr ⟨hx.1, by omega⟩
    have z3 : H3.get H1.size = .cells (fcell F[i]) true 0 := by rw [k3 _ (by omega) (ow3'.off z2 (by omega))]; exact z2
    obtain ⟨v3, g3, ov3, dv3⟩ := o3.go
    obtain ⟨w', p1, p2, p3⟩ := o3.gp
    have hKl : (ids F4 ++ ids (F.drop i)).length ≤ 100 := by simp; omega
    have hbs : abuildSlice E H2 63 1 [(0, .agg ((F[i]).1.m.v (F[i]).2).toArray)] = some (.slice (some ⟨H2.size, 0, some 1⟩) 1 1, H2.alloc (.cells (mcell ((F[i]).1.m, (F[i]).2)) true 9)) := bs63 (p := ((F[i]).1.m, (F[i]).2))
    simp (disch := first | assumption | simp) only [↓wbD, wbU, ↓aop, ↓reduceIte, Nat.reduceEqDiff, Nat.reduceLT, reduceCtorEq, goInt, pairs, f0, f3, f5, fa69_0, fa69_1, fa75_0, fa75_1, fa75_2, fa31_8, Nat.zero_add, Nat.add_zero, Nat.reduceAdd, ld_cell ty50 rfl g1, c0, c1, hlen, hin, decide_true, hia, ld75 hg hiF, zero75m, hst, ld_cell ty3 rfl z2, ld_cell ty9 rfl z2, q1, q10, hlt3, eg, AbsYtlmcjfnignbdoaa.str_neq', not_false_eq_true, ldbox z2, hbs, ha, ld_cell ty67 rfl g3, ld_cell ty3 rfl z3, q0]
    refine (spec61 p1 (o3.lt _ o3.own.2) p2 hKl).mono ?_
    rintro r4 H4 ⟨w5, g4, ow6, bw, d4⟩
    have s4 := d4.size
    simp (disch := first | assumption | simp) only [↓wbD, wbU, ↓aop, ↓reduceIte, Nat.reduceEqDiff, Nat.reduceLT, reduceCtorEq, goInt, pairs, f5, hw']
    have nd : (ids F4 ++ (F[i]).1.id :: ids (F.drop (i + 1))).Nodup := by
      rw [← hdr, hF4, ← List.map_append]
      refine List.Nodup.sublist (List.Sublist.map _ ?_) hgd.ids
      have := List.Sublist.append_right (List.filter_sublist (p := fun p : Fl × Value => stays p.1) (l := F.take i)) (F.drop i)
      rwa [List.take_append_drop] at this
    have hKn : flt (ids F4 ++ ids (F.drop i)) (F[i]).1.id = ids F4 ++ ids (F.drop (i + 1)) := by rw [hdr, erase_here nd]
    rw [hKn] at ow6
    have hrov : rp ∉ blkOf v3 := ov3.off p1 (by omega)
    have nrp : ∀ {b : Nat}, ¬ D1 b → b ≠ rp := fun hb e => hb (e ▸ o3.own.2)
    have b5' : ∀ b ∈ blkOf r, H.size ≤ b ∧ ¬ D1 b := fun b hb => by
      rcases b5 b hb with hx | hx
      · exact b3 b hx
      · exact ⟨by omega, fun hD => by have := o2.lt b hD; omega⟩
    have ow4'' : OwnC H3 11 w4 F4.length (fcells F4) := ow4'.keep s3 fun b hb => k3 b (ow4'.sz hb).2 (fun hx => hwx b hx hb)
    refine ⟨_, rfl, ⟨?_, i + 1, r, w4, G ++ [((F[i]).1.m, (F[i]).2)], F4, Grow D1 H3 H4, by omega, ?_, ?_, ?_, ?_, fun b hb => ?_, D3.trans (d4.mono fun b _ hb => hD3 b (hb ▸ o3.own.2)), hF4', hG', ow5.keep s4 fun b hb => d4.but.get b (ow5.sz hb).2 (nrp (b5' b hb).2), ow4''.keep s4 fun b hb => d4.but.get b (ow4''.sz hb).2 (nrp (b4 b hb).2), fun b hb => ⟨(b5' b hb).1, ?_⟩, fun b hb => ⟨(b4 b hb).1, ?_⟩⟩, ?_⟩
    · simp (disch := first | assumption | simp) only [↓wbD, wbU, ↓aop, ↓reduceIte, Nat.reduceEqDiff, Nat.reduceLT, reduceCtorEq, goInt, pairs, f0]
    · simp (disch := first | assumption | simp) only [↓wbD, wbU, ↓aop, ↓reduceIte, Nat.reduceEqDiff, Nat.reduceLT, reduceCtorEq, goInt, pairs]
    · simp (disch := first | assumption | simp) only [↓wbD, wbU, ↓aop, ↓reduceIte, Nat.reduceEqDiff, Nat.reduceLT, reduceCtorEq, goInt, pairs]
    · simp (disch := first | assumption | simp) only [↓wbD, wbU, ↓aop, ↓reduceIte, Nat.reduceEqDiff, Nat.reduceLT, reduceCtorEq, goInt, pairs, f4]
    · exact ⟨⟨v3, by rw [d4.but.get _ (o3.lt _ o3.own.1) h.ne]; exact g3, ov3.keep s4 fun b hb => d4.but.get b (ov3.sz hb).2 (by rintro rfl; exact hrov hb), fun b hb => .inl (dv3 b hb)⟩, ⟨w5, g4, ow6, fun b hb => .inr (bw b hb)⟩, h.lo, h.hi, o3.mem.keep d4.kept, ⟨.inl o3.own.1, .inl o3.own.2⟩, h.ne, fun b hb => hb.elim (fun hx => Nat.lt_of_lt_of_le (o3.lt b hx) s4) (·.2)⟩
    · rcases hb with hb | hb
      · exact (hD3 b hb).elim .inl fun hx => .inr ⟨hx.1, by omega⟩
      · exact .inr ⟨by omega, hb.2⟩
    · rintro (hx | hx)
      · exact (b5' b hb).2 hx
      · have := (ow5.sz hb).2; omega
    · rintro (hx | hx)
      · exact (b4 b hb).2 hx
      · have := (ow4''.sz hb).2; omega
    · simp (disch := first | assumption | simp) only [↓wbD, wbU, ↓aop, ↓reduceIte, Nat.reduceEqDiff, Nat.reduceLT, reduceCtorEq, goInt, pairs, f5]
      simp; omega
end Go.Proofs.Ytlmcjfnignbdoaa.Abs
