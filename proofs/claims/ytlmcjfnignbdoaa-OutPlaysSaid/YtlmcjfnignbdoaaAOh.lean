/-
  A part of a law's proof.
-/
import Derived.Test.YtlmcjfnignbdoaaAOg
namespace Go.Proofs.Ytlmcjfnignbdoaa.Abs
open Go AbsYtlmcjfnignbdoaa
set_option maxRecDepth 100000
set_option maxHeartbeats 4000000
set_option linter.unusedSimpArgs false
set_option linter.unusedVariables false
theorem spec39 {H : AHeap} {D : Nat → Prop} {bo bp bm : Nat} {last : Int} {F : FS} (h : OutI H D bo bp bm last F) : CallW E 39 [ptr bo] H fun r H' => r = .int .i64 F.length ∧ H' = H := by
  refine call39 (by simp) ?_
  simp only [strip, bodyOf, Try.f39, getD_body, keepN, bareOp_mk, lessOp_mk, lapp_cons, lapp_nil, List.map_cons, List.map_nil, array_toList, ↓reduceIte, Nat.reduceEqDiff, Bool.false_eq_true]
  obtain ⟨v, g0, ow0, dv⟩ := h.go
  have c1 : ([ptr bp, v] : List Value)[1]? = some v := rfl
  have hlen := ow0.slice.alen (E := E) (ts := []) ty50
  simp (disch := first | assumption | simp) only [↓wbD, wbU, ↓aop, ↓reduceIte, Nat.reduceEqDiff, Nat.reduceLT, reduceCtorEq, goInt, pairs, nil_ptr ty45 rfl, Option.isNone_some, fa52_1, Nat.zero_add, ld_cell ty50 rfl g0, c1, hlen]
theorem spec38 {H : AHeap} {D : Nat → Prop} {bo bp bm : Nat} {last : Int} {F : FS} (h : OutI H D bo bp bm last F) (hF : F.length ≤ 100) : CallW E 38 [ptr bo] H fun r H' => OwnC H' 11 r F.length (fcells F) ∧ Ext H H' ∧ ∀ b ∈ blkOf r, H.size ≤ b := by
  refine call38 (by simp) ?_
  simp only [strip, bodyOf, Try.f38, getD_body, keepN, bareOp_mk, lessOp_mk, lapp_cons, lapp_nil, List.map_cons, List.map_nil, array_toList, ↓reduceIte, Nat.reduceEqDiff, Bool.false_eq_true]
  obtain ⟨v, g0, ow0, dv⟩ := h.go
  have c1 : ([ptr bp, v] : List Value)[1]? = some v := rfl
  simp (disch := first | assumption | simp) only [↓wbD, wbU, ↓aop, ↓reduceIte, Nat.reduceEqDiff, Nat.reduceLT, reduceCtorEq, goInt, pairs, nil_ptr ty45 rfl, Option.isNone_some, fa52_1, Nat.zero_add, ld_cell ty50 rfl g0, c1]
  refine (spec62 ow0 h.mem hF).mono ?_
  rintro r H1 ⟨h1, _, h3, h4⟩
  simp (disch := first | assumption | simp) only [↓wbD, wbU, ↓aop, ↓reduceIte, Nat.reduceEqDiff, Nat.reduceLT, reduceCtorEq, goInt, pairs]
  exact ⟨h1, h3, h4⟩
/-- a message stays under way -/
def stays (f : Fl) : Bool := decide (f.st = 3) || decide (f.m.g = ⟨#[]⟩)
def groupF (A : List Fl) : List Msg × List Fl := ((A.filter fun f => !stays f).map (·.m), A.filter stays)
theorem ldbox {H : AHeap} {x : Nat} {p : Fl × Value} {wr : Bool} {sz : Nat} (hg : H.get x = .cells (fcell p) wr sz) : aload E H 31 (.pointer (some ⟨x, 2, none⟩)) = some (.agg (p.1.m.v p.2).toArray) := by
  rw [ld_agg ty31 rfl hg (show 2 + 9 ≤ 11 by omega)]; rfl
theorem ldbox75 {H : AHeap} {x : Nat} {p : Fl × Value} {wr : Bool} {sz : Nat} (hg : H.get x = .cells (fcell p) wr sz) : aload E H 75 (.pointer (some ⟨x, 0, none⟩)) = some (.agg (fcell p).toArray) := by
  rw [ld_agg ty75 rfl hg (show 0 + 11 ≤ 11 by omega)]; rfl
theorem st75 {H : AHeap} {b : Nat} {zs : List Value} {p : Fl × Value} (hg : H.get b = .cells zs true 0) (hz : zs.length = 11) (ho : (fcell p).all oneCell = true) :
    astore E H 75 (.pointer (some ⟨b, 0, none⟩)) (.agg (fcell p).toArray) = some (H.set b (.cells (fcell p) true 0)) := by
  have hl : (fcell p).length = 11 := rfl
  simp only [astore, ty75, vcells, astoreAt, hg]
  simp [hl, ho, hz, splice, List.drop_eq_nil_of_le (Nat.le_of_eq hz)]
def z75 : List Value := [.int .i64 0, .int .i64 0, .string ⟨#[]⟩, .string ⟨#[]⟩, .int .i64 0, .bool false, .slice none 0 0, .string ⟨#[]⟩, .int .i64 0, .int .i64 0, .string ⟨#[]⟩]
theorem zero75m : azero E 75 = some z75 := rfl
/-- a new block that is written at once -/
theorem new_set {H : AHeap} {o o' : AObj} : Ext H ((H.alloc o).set H.size o') ∧ ((H.alloc o).set H.size o').size = H.size + 1 ∧ ((H.alloc o).set H.size o').get H.size = o' :=
  ⟨⟨by rw [AHeap.size_set, AHeap.size_alloc]; omega, fun b hb => by rw [AHeap.get_set_ne _ _ (by omega), AHeap.get_alloc_ne _ _ (by omega)]⟩, by rw [AHeap.size_set, AHeap.size_alloc], AHeap.get_set_same _ _ _⟩
theorem erase_mid {α : Type} (l : List α) (a : α) (r : List α) : (l ++ a :: r).eraseIdx l.length = l ++ r := by
  rw [List.eraseIdx_append_of_length_le (Nat.le_refl _), Nat.sub_self]; rfl
theorem spec35 {H : AHeap} {D : Nat → Prop} {bo bp bm : Nat} {last : Int} {F : FS} (h : OutI H D bo bp bm last F) (hF : F.length ≤ 100) (hn : (ids F).Nodup) :
    CallW E 35 [ptr bo] H fun r H' => ∃ F' G, OutI H' (Grow D H H') bo bp bm last F' ∧ Did D H H' ∧ OwnC H' 9 r G.length (mcells G) ∧ (∀ p ∈ G, Mem H' p.1 p.2) ∧ (∀ b ∈ blkOf r, H.size ≤ b) ∧ groupF (F.map (·.1)) = (G.map (·.1), F'.map (·.1)) := by
  refine call35 (by simp) ?_
  simp only [strip, bodyOf, Try.f35, getD_body, keepN, bareOp_mk, lessOp_mk, lapp_cons, lapp_nil, List.map_cons, List.map_nil, array_toList, ↓reduceIte, Nat.reduceEqDiff, Bool.false_eq_true]
  simp (disch := first | assumption | simp) only [↓wbD, wbU, ↓aop, ↓reduceIte, Nat.reduceEqDiff, Nat.reduceLT, reduceCtorEq, goInt, pairs]
  refine W_count (fun k f H' => f 0 = ptr bo ∧ ∃ (done rest : List Fl) (F' : FS) (G : List (Msg × Value)) (D' : Nat → Prop) (w : Value), k = rest.length ∧ F.map (·.1) = done ++ rest ∧ F'.map (·.1) = done.filter stays ++ rest ∧ G.map (·.1) = (done.filter fun f => !stays f).map (·.m) ∧ f 4 = .int .i64 (done.filter stays).length ∧ f 3 = w ∧
    OutI H' D' bo bp bm last F' ∧ (∀ b, D' b → Grow D H H' b) ∧ Did D H H' ∧ OwnC H' 9 w G.length (mcells G) ∧ (∀ p ∈ G, Mem H' p.1 p.2) ∧ ∀ b ∈ blkOf w, H.size ≤ b ∧ ¬ D' b) (k := F.length) ?_ ?_
  · refine ⟨?_, [], F.map (·.1), F, [], D, .slice none 0 0, by simp, rfl, by simp, rfl, ?_, ?_, h, fun b hb => .inl hb, Did.refl, OwnC.nil, by simp, by simp [blkOf]⟩
    · simp (disch := first | assumption | simp) only [↓wbD, wbU, ↓aop, ↓reduceIte, Nat.reduceEqDiff, Nat.reduceLT, reduceCtorEq, goInt, pairs]
    · simp (disch := first | assumption | simp) only [↓wbD, wbU, ↓aop, ↓reduceIte, Nat.reduceEqDiff, Nat.reduceLT, reduceCtorEq, goInt, pairs]
      rfl
    · simp (disch := first | assumption | simp) only [↓wbD, wbU, ↓aop, ↓reduceIte, Nat.reduceEqDiff, Nat.reduceLT, reduceCtorEq, goInt, pairs]
  rintro k f H1 ⟨f0, done, rest, F1, G, D1, w, rfl, hA, hF1, hG, f4, f3, o1, hD1, d1, oG, hGm, hw⟩
  have hl1 : F1.length = (done.filter stays).length + rest.length := by
    have := congrArg List.length hF1
    simpa using this
  have hlA : F.length = done.length + rest.length := by
    have := congrArg List.length hA
    simpa using this
  have hfl : (done.filter stays).length ≤ done.length := List.length_filter_le _ _
  simp (disch := first | assumption | simp) only [↓wbD, wbU, ↓aop, ↓reduceIte, Nat.reduceEqDiff, Nat.reduceLT, reduceCtorEq, goInt, pairs, f0, f4]
  refine (spec39 o1).mono ?_
  rintro r H1 ⟨rfl, rfl⟩
  cases rest with
  | nil =>
    have hlt : ¬ ((done.filter stays).length : Int) < (F1.length : Int) := by simp at hl1; omega
    simp (disch := first | assumption | simp) only [↓wbD, wbU, ↓aop, ↓reduceIte, Nat.reduceEqDiff, Nat.reduceLT, reduceCtorEq, goInt, pairs, f3, hlt, decide_false]
    refine ⟨F1, G, o1.grow hD1 ?_, d1, oG, hGm, fun b hb => (hw b hb).1, ?_⟩
    · rintro b (hb | hb)
      · exact Nat.lt_of_lt_of_le (h.lt b hb) d1.size
      · exact hb.2
    · rw [List.append_nil] at hA hF1
      rw [hA, groupF, hG, hF1]
  | cons a rest =>
    have hi : (done.filter stays).length < F1.length := by rw [hl1, List.length_cons]; omega
    generalize hni : (done.filter stays).length = i at *
    have hlt : (i : Int) < (F1.length : Int) := by omega
    have ha : (F1[i]).1 = a := by
      have h1 : (F1.map (·.1))[i]? = some a := by rw [hF1, List.getElem?_append_right (by omega), hni, Nat.sub_self]; rfl
      rw [List.getElem?_map, List.getElem?_eq_getElem hi] at h1
      simpa using h1
    have hn1 : (ids F1).Nodup := by
      have e : ids F1 = (F1.map (·.1)).map (·.id) := by simp [ids]
      have e0 : ids F = (F.map (·.1)).map (·.id) := by simp [ids]
      rw [e, hF1]
      rw [e0, hA] at hn
      refine List.Nodup.sublist (List.Sublist.map _ ?_) hn
      exact List.Sublist.append_right List.filter_sublist _
    obtain ⟨v, g1, ow1, dv⟩ := o1.go
    obtain ⟨b, c, ex, sp, hve, hg, hb⟩ := own_at ow1 hi
    have c1 : ∀ v : Value, ([ptr bp, v] : List Value)[1]? = some v := fun _ => rfl
    have hia := ia_slice (E := E) ty50 ty75 (B := b) (o := 0) (c := c) (ex := ex) (k := .i64) hi
    rw [← hve] at hia
    have hpm : Mem H1 (F1[i]).1.m (F1[i]).2 := o1.mem _ (List.getElem_mem hi)
    have hst := st75 (p := F1[i]) (AHeap.get_alloc_same H1 (.cells z75 true 0)) rfl (Mem.onef hpm)
    obtain ⟨x2, s2, z2⟩ := new_set (H := H1) (o := .cells z75 true 0) (o' := .cells (fcell F1[i]) true 0)
    have q1 : (fcell F1[i])[1]? = some (.int .i64 (F1[i]).1.st) := rfl
    have q10 : (fcell F1[i])[10]? = some (.string (F1[i]).1.m.g) := rfl
    simp (disch := first | assumption | simp) only [↓wbD, wbU, ↓aop, ↓reduceIte, Nat.reduceEqDiff, Nat.reduceLT, reduceCtorEq, goInt, pairs, f0, f4, hlt, decide_true, fa52_1, Nat.zero_add, ld_cell ty50 rfl g1, c1, hia, ld75 hg hi, zero75m, hst]
    generalize (H1.alloc (.cells z75 true 0)).set H1.size (.cells (fcell F1[i]) true 0) = H2 at x2 s2 z2 ⊢
    have d2 : Did D H H2 := d1.trans x2.did
    have o2 : OutI H2 D1 bo bp bm last F1 := o1.keep (S := fun _ => False) x2.did fun _ _ hf => hf
    have hD2 : ∀ b, D1 b → Grow D H H2 b := fun b hb => (hD1 b hb).elim .inl fun hx => .inr ⟨hx.1, by omega⟩
    have oG2 : OwnC H2 9 w G.length (mcells G) := oG.keep x2.size fun b hb => x2.get b (oG.sz hb).2
    have hGm2 : ∀ p ∈ G, Mem H2 p.1 p.2 := fun p hp => (hGm p hp).keep (x2.did (D := D)).kept
    have hwi := wrap_nat (n := i) (by omega)
    by_cases hstay : stays a = true
    · have e3 : (F1[i]).1.st = 3 ∨ (F1[i]).1.m.g = ⟨#[]⟩ := by rw [ha]; simpa [stays] using hstay
      have back : ∃ (done' rest' : List Fl) (F' : FS) (G' : List (Msg × Value)) (D' : Nat → Prop) (w' : Value), rest.length = rest'.length ∧ F.map (·.1) = done' ++ rest' ∧ F'.map (·.1) = done'.filter stays ++ rest' ∧ G'.map (·.1) = (done'.filter fun f => !stays f).map (·.m) ∧ (Value.int .i64 ((i + 1 : Nat) : Int)) = .int .i64 (done'.filter stays).length ∧ w = w' ∧
          OutI H2 D' bo bp bm last F' ∧ (∀ b, D' b → Grow D H H2 b) ∧ Did D H H2 ∧ OwnC H2 9 w' G'.length (mcells G') ∧ (∀ p ∈ G', Mem H2 p.1 p.2) ∧ ∀ b ∈ blkOf w', H.size ≤ b ∧ ¬ D' b := by
        refine ⟨done ++ [a], rest, F1, G, D1, w, rfl, by rw [hA]; simp, ?_, ?_, ?_, rfl, o2, hD2, d2, oG2, hGm2, hw⟩
        · rw [hF1, List.filter_append, List.filter_cons_of_pos hstay]; simp
        · rw [hG, List.filter_append, List.filter_cons_of_neg (by simp [hstay])]; simp
        · rw [List.filter_append, List.filter_cons_of_pos hstay, List.length_append, hni]; rfl
      by_cases h3 : (F1[i]).1.st = 3
      · simp (disch := first | assumption | simp) only [↓wbD, wbU, ↓aop, ↓reduceIte, Nat.reduceEqDiff, Nat.reduceLT, reduceCtorEq, goInt, pairs, f4, fa75_1, Nat.zero_add, ld_cell ty3 rfl z2, q1, h3, decide_true, hwi]
        refine ⟨_, rest.length, rfl, ⟨?_, ?_⟩, by simp⟩
        · simp (disch := first | assumption | simp) only [↓wbD, wbU, ↓aop, ↓reduceIte, Nat.reduceEqDiff, Nat.reduceLT, reduceCtorEq, goInt, pairs, f0]
        · simp (disch := first | assumption | simp) only [↓wbD, wbU, ↓aop, ↓reduceIte, Nat.reduceEqDiff, Nat.reduceLT, reduceCtorEq, goInt, pairs, f3]
          exact back
      · have hg0 : (F1[i]).1.m.g = ⟨#[]⟩ := e3.resolve_left h3
        simp (disch := first | assumption | simp) only [↓wbD, wbU, ↓aop, ↓reduceIte, Nat.reduceEqDiff, Nat.reduceLT, reduceCtorEq, goInt, pairs, f4, fa75_1, fa75_2, fa31_8, Nat.zero_add, Nat.reduceAdd, ld_cell ty3 rfl z2, ld_cell ty9 rfl z2, q1, q10, h3, hg0, AbsYtlmcjfnignbdoaa.str_eql, decide_true, decide_false, hwi]
        refine ⟨_, rest.length, rfl, ⟨?_, ?_⟩, by simp⟩
        · simp (disch := first | assumption | simp) only [↓wbD, wbU, ↓aop, ↓reduceIte, Nat.reduceEqDiff, Nat.reduceLT, reduceCtorEq, goInt, pairs, f0]
        · simp (disch := first | assumption | simp) only [↓wbD, wbU, ↓aop, ↓reduceIte, Nat.reduceEqDiff, Nat.reduceLT, reduceCtorEq, goInt, pairs, f3]
          exact back
    · have e3 : ¬ (F1[i]).1.st = 3 := by rw [ha]; intro e; exact hstay (by simp [stays, e])
      have eg : ¬ (F1[i]).1.m.g = ⟨#[]⟩ := by rw [ha]; intro e; exact hstay (by simp [stays, e])
      -- one more to go out
      have hpm2 : Mem H2 (F1[i]).1.m (F1[i]).2 := hpm.keep (x2.did (D := D)).kept
      have x3 : Ext H2 (H2.alloc (.cells (mcell ((F1[i]).1.m, (F1[i]).2)) true 9)) := Ext.alloc _ _
      have oG3 := oG2.keep x3.size fun b hb => x3.get b (oG2.sz hb).2
      have hn3 : H2.size ∉ blkOf w := fun hb => by have := (oG2.sz hb).2; omega
      have hGl : G.length ≤ 100 := by
        have := congrArg List.length hG
        simp only [List.length_map] at this
        have h2 : (done.filter fun f => !stays f).length ≤ done.length := List.length_filter_le _ _
        omega
      obtain ⟨r4, H4, ha4, oG4, s4, k4, b4⟩ := oG3.append (t := 63) (e := 31) (c := H2.size) (ex := some 1) (new := mcell ((F1[i]).1.m, (F1[i]).2)) ty63 ty31 rfl zero31m rfl (by omega) (by decide) (AHeap.get_alloc_same _ _) hn3 rfl hpm2.one (by show (_ + 1) * 120 ≤ _; omega)
      rw [AHeap.size_alloc] at s4 k4 b4
      have d34 : Did (fun b => b ∈ blkOf w ∨ b = H2.size) H2 H4 := (x3.did).trans ((oG3.did (D := fun b => b ∈ blkOf w) (by omega) (by rw [AHeap.size_alloc]; omega) (by rw [AHeap.size_alloc]; exact k4) fun b hb => hb).mono fun b _ hb => .inl (.inl hb))
      have o4 : OutI H4 D1 bo bp bm last F1 := o2.keep d34 fun b hb he => by
        rcases he with he | rfl
        · exact (hw b he).2 hb
        · have := o2.lt _ hb; omega
      have hbs : abuildSlice E H2 63 1 [(0, .agg ((F1[i]).1.m.v (F1[i]).2).toArray)] = some (.slice (some ⟨H2.size, 0, some 1⟩) 1 1, H2.alloc (.cells (mcell ((F1[i]).1.m, (F1[i]).2)) true 9)) := bs63 (p := ((F1[i]).1.m, (F1[i]).2))
      simp (disch := first | assumption | simp) only [↓wbD, wbU, ↓aop, ↓reduceIte, Nat.reduceEqDiff, Nat.reduceLT, reduceCtorEq, goInt, pairs, f3, fa75_1, fa75_2, fa31_8, Nat.zero_add, Nat.reduceAdd, ld_cell ty3 rfl z2, ld_cell ty9 rfl z2, q1, q10, e3, eg, AbsYtlmcjfnignbdoaa.str_eql, decide_false, ldbox z2, hbs, ha4, f0, f4]
      refine (spec59 o4 hi (by omega) hn1).mono ?_
      rintro r5 H5 ⟨o5, d5⟩
      simp (disch := first | assumption | simp) only [↓wbD, wbU, ↓aop, ↓reduceIte, Nat.reduceEqDiff, Nat.reduceLT, reduceCtorEq, goInt, pairs]
      have s5 := d5.size
      have hw4 : ∀ b ∈ blkOf r4, H.size ≤ b ∧ ¬ D1 b := fun b hb => by
        rcases b4 b hb with hb' | hb'
        · exact hw b hb'
        · exact ⟨by have := d2.size; omega, fun hD => by have := o2.lt b hD; omega⟩
      have D5 : Did D H H5 := (d2.trans (d34.mono fun b hb hx => by
          rcases hx with hx | rfl
          · exact .inr ⟨(hw b hx).1, hb⟩
          · omega)).trans (d5.mono fun b hb hx => (hD2 b hx).elim .inl fun hy => .inr ⟨hy.1, hb⟩)
      refine ⟨_, rest.length, rfl, ⟨?_, done ++ [a], rest, F1.eraseIdx i, G ++ [((F1[i]).1.m, (F1[i]).2)], Grow D1 H4 H5, r4, rfl, by rw [hA]; simp, ?_, ?_, ?_, ?_, o5, ?_, D5, ?_, ?_, ?_⟩, by simp⟩
      · simp (disch := first | assumption | simp) only [↓wbD, wbU, ↓aop, ↓reduceIte, Nat.reduceEqDiff, Nat.reduceLT, reduceCtorEq, goInt, pairs, f0]
      · rw [← erase_map, hF1, List.filter_append, List.filter_cons_of_neg (by simpa using hstay), ← hni, erase_mid]; simp
      · rw [List.map_append, hG, List.filter_append, List.filter_cons_of_pos (by simpa using hstay), List.map_append, ha]; rfl
      · simp (disch := first | assumption | simp) only [↓wbD, wbU, ↓aop, ↓reduceIte, Nat.reduceEqDiff, Nat.reduceLT, reduceCtorEq, goInt, pairs, f4]
        rw [List.filter_append, List.filter_cons_of_neg (by simpa using hstay), List.length_append, hni]; rfl
      · simp (disch := first | assumption | simp) only [↓wbD, wbU, ↓aop, ↓reduceIte, Nat.reduceEqDiff, Nat.reduceLT, reduceCtorEq, goInt, pairs]
      · rintro b (hb | hb)
        · exact (hD2 b hb).elim .inl fun hy => .inr ⟨hy.1, by omega⟩
        · exact .inr ⟨by have := d2.size; omega, hb.2⟩
      · have : OwnC H4 9 r4 (G ++ [((F1[i]).1.m, (F1[i]).2)]).length (mcells (G ++ [((F1[i]).1.m, (F1[i]).2)])) := by rw [mcells, chunk_snoc, List.length_append]; exact oG4
        exact this.keep s5 fun b hb => d5.but.get b (oG4.sz hb).2 (hw4 b hb).2
      · intro p hp
        rcases List.mem_append.1 hp with hp | hp
        · exact ((hGm2 p hp).keep d34.kept).keep d5.kept
        · obtain rfl := List.mem_singleton.1 hp
          exact (hpm2.keep d34.kept).keep d5.kept
      · intro b hb
        refine ⟨(hw4 b hb).1, ?_⟩
        rintro (hx | hx)
        · exact (hw4 b hb).2 hx
        · have := (oG4.sz hb).2; omega
end Go.Proofs.Ytlmcjfnignbdoaa.Abs
