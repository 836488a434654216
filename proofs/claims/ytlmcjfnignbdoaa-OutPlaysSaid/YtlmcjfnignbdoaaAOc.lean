/-
  A part of a law's proof.
-/
import Derived.Test.YtlmcjfnignbdoaaAOb
namespace Go.Proofs.Ytlmcjfnignbdoaa.Abs
open Go AbsYtlmcjfnignbdoaa
set_option maxRecDepth 100000
set_option maxHeartbeats 2000000
set_option linter.unusedSimpArgs false
set_option linter.unusedVariables false
abbrev ids (F : FS) : List Int := F.map (·.1.id)
structure OutI (H : AHeap) (D : Nat → Prop) (bo bp bm : Nat) (last : Int) (F : FS) : Prop where
  go : ∃ v, H.get bo = .cells [ptr bp, v] true 0 ∧ OwnC H 11 v F.length (fcells F) ∧ ∀ b ∈ blkOf v, D b
  pid : Pid H bp bm last (ids F)
  mem : Mems H F
  own : D bo ∧ D bp ∧ D bm
  ne : bo ≠ bp
  lt : ∀ b, D b → b < H.size
theorem OutI.keep {H H' : AHeap} {D S : Nat → Prop} {bo bp bm : Nat} {last : Int} {F : FS} (h : OutI H D bo bp bm last F) (k : Did S H H') (hS : ∀ b, D b → ¬ S b) : OutI H' D bo bp bm last F := by
  obtain ⟨⟨v, g1, g2, g3⟩, p, m, ⟨o1, o2, o3⟩, ne, lt⟩ := h
  have e : ∀ b, D b → H'.get b = H.get b := fun b hb => k.but.get b (lt b hb) (hS b hb)
  exact ⟨⟨v, by rw [e _ o1]; exact g1, g2.keep k.size fun b hb => e b (g3 b hb), g3⟩, p.keep k.size (e _ o2) (e _ o3), m.keep k.kept, ⟨o1, o2, o3⟩, ne, fun b hb => Nat.lt_of_lt_of_le (lt b hb) k.size⟩
theorem OutI.grow {H : AHeap} {D D' : Nat → Prop} {bo bp bm : Nat} {last : Int} {F : FS} (h : OutI H D bo bp bm last F) (hD : ∀ b, D b → D' b) (hl : ∀ b, D' b → b < H.size) : OutI H D' bo bp bm last F := by
  obtain ⟨⟨v, g1, g2, g3⟩, p, m, ⟨o1, o2, o3⟩, ne, lt⟩ := h
  exact ⟨⟨v, g1, g2, fun b hb => hD b (g3 b hb)⟩, p, m, ⟨hD _ o1, hD _ o2, hD _ o3⟩, ne, hl⟩
theorem OutI.ext {H H' : AHeap} {D : Nat → Prop} {bo bp bm : Nat} {last : Int} {F : FS} (h : OutI H D bo bp bm last F) (x : Ext H H') : OutI H' (Grow D H H') bo bp bm last F :=
  (h.keep (S := fun _ => False) x.did fun _ _ h => h).grow (fun b hb => .inl hb) fun b hb => hb.elim (fun hb => Nat.lt_of_lt_of_le (h.lt b hb) x.size) (·.2)
theorem build52 {b : Nat} : abuild E 52 [(0, ptr b)] = some (.agg #[ptr b, .slice none 0 0]) := by kernel_rfl
theorem spec26 {H : AHeap} : CallW E 26 [] H fun r H' => r = ptr (H.size + 2) ∧ OutI H' (fun b => H.size ≤ b ∧ b < H'.size) (H.size + 2) (H.size + 1) H.size 0 [] ∧ Ext H H' := by
  refine call26 (by simp) ?_
  simp only [strip, bodyOf, Try.f26, getD_body, keepN, bareOp_mk, lessOp_mk, lapp_cons, lapp_nil, List.map_cons, List.map_nil, array_toList, ↓reduceIte, Nat.reduceEqDiff, Bool.false_eq_true]
  simp (disch := first | assumption | simp) only [↓wbD, wbU, ↓aop, ↓reduceIte, Nat.reduceEqDiff, Nat.reduceLT, reduceCtorEq, goInt, pairs]
  refine spec53.mono ?_
  rintro r H1 ⟨rfl, hH1⟩
  have hs1 : H1.size = H.size + 2 := by rw [hH1, AHeap.size_alloc, AHeap.size_alloc]
  simp (disch := first | assumption | simp) only [↓wbD, wbU, ↓aop, ↓reduceIte, Nat.reduceEqDiff, Nat.reduceLT, reduceCtorEq, goInt, pairs, build52, vcells, hs1]
  have hs2 : (H1.alloc (.cells [ptr (H.size + 1), .slice none 0 0] true 0)).size = H.size + 3 := by rw [AHeap.size_alloc, hs1]
  have g : ∀ b, (H1.alloc (.cells [ptr (H.size + 1), .slice none 0 0] true 0)).get b = if b = H.size + 2 then .cells [ptr (H.size + 1), .slice none 0 0] true 0 else if b = H.size + 1 then .cells [.int .i64 65535, .int .i64 0, .map (some H.size)] true 0 else if b = H.size then .map [] 0 else H.get b := fun b => by
    rw [get_alloc, hs1, hH1, get_alloc, AHeap.size_alloc, get_alloc]
  generalize H1.alloc (.cells [ptr (H.size + 1), .slice none 0 0] true 0) = H2 at hs2 g ⊢
  refine ⟨⟨⟨.slice none 0 0, by rw [g, if_pos rfl], OwnC.nil, by simp [blkOf]⟩, ⟨?_, ⟨[], 0, ?_, rfl⟩, by omega, by omega, by omega, by omega⟩, fun p hp => by simp at hp, ⟨⟨by omega, by omega⟩, ⟨by omega, by omega⟩, ⟨by omega, by omega⟩⟩, by omega, fun b hb => hb.2⟩, by omega, fun b hb => ?_⟩
  · rw [g, if_neg (by omega), if_pos rfl]
  · rw [g, if_neg (by omega), if_neg (by omega), if_pos rfl]
  · rw [g, if_neg (by omega), if_neg (by omega), if_neg (by omega)]
/-- what Send does -/
def SendIs (last : Int) (A : List Fl) (q : Int) (m : Msg) (last' : Int) (A' : List Fl) (x : Int) (ok : Bool) : Prop :=
  (q = 1 ∨ q = 2) ∧ ok = true ∧ NextIs last (A.map (·.id)) x ∧ last' = x ∧ A' = A ++ [⟨x, q, m⟩] ∨ ¬ (q = 1 ∨ q = 2) ∧ ok = false ∧ x = 0 ∧ last' = last ∧ A' = A
theorem SendIs.uniq {last : Int} {A : List Fl} {q : Int} {m : Msg} {l1 l2 x1 x2 : Int} {A1 A2 : List Fl} {o1 o2 : Bool} (h : SendIs last A q m l1 A1 x1 o1) (k : SendIs last A q m l2 A2 x2 o2) : l1 = l2 ∧ A1 = A2 ∧ x1 = x2 ∧ o1 = o2 := by
  rcases h with ⟨h0, rfl, h1, rfl, rfl⟩ | ⟨h0, rfl, rfl, rfl, rfl⟩
  · rcases k with ⟨k0, rfl, k1, rfl, rfl⟩ | ⟨k0, _⟩
    · obtain rfl := h1.uniq k1; exact ⟨rfl, rfl, rfl, rfl⟩
    · exact (k0 h0).elim
  · rcases k with ⟨k0, _⟩ | ⟨k0, rfl, rfl, rfl, rfl⟩
    · exact (h0 k0).elim
    · exact ⟨rfl, rfl, rfl, rfl⟩
theorem st31s {H : AHeap} {b : Nat} {m : Msg} {sl : Value} {a : Option Addr} {n c : Nat} (hg : H.get b = .cells (m.v sl) true 0) : astore E H 29 (.pointer (some ⟨b, 4, none⟩)) (.slice a n c) = some (H.set b (.cells (m.v (.slice a n c)) true 0)) := by
  simp [astore, ty29, astoreAt, hg, vcells, oneCell, splice, Msg.v, msgV]
theorem ld31 {H : AHeap} {b : Nat} {m : Msg} {sl : Value} {wr : Bool} {sz : Nat} (hg : H.get b = .cells (m.v sl) wr sz) : aload E H 31 (.pointer (some ⟨b, 0, none⟩)) = some (.agg (m.v sl).toArray) := ld_agg ty31 rfl hg (Nat.le_refl _)
theorem spec28 {H : AHeap} {D : Nat → Prop} {bo bp bm : Nat} {last q : Int} {F : FS} {m : Msg} {sl : Value} (h : OutI H D bo bp bm last F) (hm : Mem H m sl) (hF : F.length ≤ 60) :
    CallW E 28 [ptr bo, .agg (m.v sl).toArray, .int .i64 q] H fun r H' => ∃ last' F' x ok, r = .tuple #[.int .i64 x, .bool ok] ∧ OutI H' (Grow D H H') bo bp bm last' F' ∧ Did D H H' ∧ SendIs last (F.map (·.1)) q m last' (F'.map (·.1)) x ok := by
  refine call28 (by simp) ?_
  simp only [strip, bodyOf, Try.f28, getD_body, keepN, bareOp_mk, lessOp_mk, lapp_cons, lapp_nil, List.map_cons, List.map_nil, array_toList, ↓reduceIte, Nat.reduceEqDiff, Bool.false_eq_true]
  obtain ⟨a0, n0, c0, rfl⟩ := hm.shape
  have hv : vcells (.agg (m.v (.slice a0 n0 c0)).toArray) = m.v (.slice a0 n0 c0) := rfl
  have x1 : Ext H (H.alloc (.cells (m.v (.slice a0 n0 c0)) true 0)) := Ext.alloc _ _
  have z1 : (H.alloc (.cells (m.v (.slice a0 n0 c0)) true 0)).get H.size = .cells (m.v (.slice a0 n0 c0)) true 0 := AHeap.get_alloc_same _ _
  have s1 : (H.alloc (.cells (m.v (.slice a0 n0 c0)) true 0)).size = H.size + 1 := AHeap.size_alloc _ _
  by_cases hq : q = 1 ∨ q = 2
  rotate_left
  · have q1 : ¬ q = 1 := fun e => hq (.inl e)
    have q2 : ¬ q = 2 := fun e => hq (.inr e)
    simp (disch := first | assumption | simp) only [↓wbD, wbU, ↓aop, ↓reduceIte, Nat.reduceEqDiff, Nat.reduceLT, reduceCtorEq, goInt, pairs, hv, nil_ptr ty45 rfl, Option.isNone_some, q1, q2, decide_true, decide_false, not_false_eq_true]
    exact ⟨last, F, 0, false, rfl, h.ext x1, x1.did, .inr ⟨hq, rfl, rfl, rfl, rfl⟩⟩
  have o1 := h.ext x1
  have hbp := h.lt _ h.own.2.1
  have hbm := h.lt _ h.own.2.2
  have hbo := h.lt _ h.own.1
  have hK : (ids F).length ≤ 100 := by simp; omega
  have m4 : ∀ sl, (m.v sl)[4]? = some sl := fun _ => rfl
  have c1 : ∀ v : Value, ([ptr bp, v] : List Value)[1]? = some v := fun _ => rfl
  have c0' : ∀ v : Value, ([ptr bp, v] : List Value)[0]? = some (ptr bp) := fun _ => rfl
  generalize hH1 : H.alloc (.cells (m.v (.slice a0 n0 c0)) true 0) = H1 at *
  obtain ⟨v, g1, ow1, db1⟩ := o1.go
  have bo_bm : bo ≠ bm := by
    rintro rfl
    obtain ⟨es, clk, k1, _⟩ := o1.pid.mp
    rw [g1] at k1; cases k1
  have e21 : ¬ ((2 : Int) = 1) := by decide
  have dv : ∀ b ∈ blkOf v, D b := fun b hb => by
    rcases db1 b hb with h1 | h1
    · exact h1
    · have : b = H.size := by omega
      subst this
      exact (ow1.off z1 (by omega) hb).elim
  rcases hq with rfl | rfl
  · simp (disch := first | assumption | simp) only [↓wbD, wbU, ↓aop, ↓reduceIte, Nat.reduceEqDiff, Nat.reduceLT, reduceCtorEq, goInt, pairs, hv, hH1, s1, nil_ptr ty45 rfl, Option.isNone_some, decide_true, decide_false, not_true_eq_false, fa52_0, Nat.zero_add, ld_cell ty49 rfl g1, c0']
    refine (spec55 o1.pid hK).mono ?_
    rintro r H2 ⟨c, rfl, hc, P2, d2⟩
    have s2 := d2.size
    have z2 : H2.get H.size = .cells (m.v (.slice a0 n0 c0)) true 0 := by rw [d2.but.get _ (by omega) (by rintro (e | e) <;> omega)]; exact z1
    have g2 : H2.get bo = .cells [ptr bp, v] true 0 := by rw [d2.but.get _ (by omega) (by rintro (e | e); exact h.ne e; exact bo_bm e)]; exact g1
    have ow2 : OwnC H2 11 v F.length (fcells F) := ow1.keep s2 fun b hb => d2.but.get b (ow1.sz hb).2 (by
      rintro (rfl | rfl)
      · exact ow1.off o1.pid.gp (by omega) hb
      · obtain ⟨es, clk, k1, _⟩ := o1.pid.mp; exact ow1.offm k1 hb)
    have hm2 : Mem H2 m (.slice a0 n0 c0) := (hm.keep (x1.did (D := D)).kept).keep d2.kept
    simp (disch := first | assumption | simp) only [↓wbD, wbU, ↓aop, ↓reduceIte, Nat.reduceEqDiff, Nat.reduceLT, reduceCtorEq, goInt, pairs, tup0, tup1, fa31_4, Nat.zero_add, ld_cell ty29 rfl z2, m4]
    refine (spec52 hm2.1 hm2.2.1 hm2.2.2).mono ?_
    rintro r H3 ⟨hs3, x3⟩
    obtain ⟨a1, n1, c1', rfl⟩ := slice_shape hs3
    have s3 := x3.size
    have z3 : H3.get H.size = .cells (m.v (.slice a0 n0 c0)) true 0 := by rw [x3.get _ (by omega)]; exact z2
    have hm3 : Mem H3 m (.slice a1 n1 c1') := ⟨hs3, hm.2⟩
    have hst3 := st31s (a := a1) (n := n1) (c := c1') z3
    have z4 : (H3.set H.size (.cells (m.v (.slice a1 n1 c1')) true 0)).get H.size = .cells (m.v (.slice a1 n1 c1')) true 0 := AHeap.get_set_same _ _ _
    have k4 : ∀ b, b ≠ H.size → (H3.set H.size (.cells (m.v (.slice a1 n1 c1')) true 0)).get b = H3.get b := fun b hb => AHeap.get_set_ne _ _ (Ne.symm hb)
    have s4 : (H3.set H.size (.cells (m.v (.slice a1 n1 c1')) true 0)).size = H3.size := AHeap.size_set _ _ _
    have d4 : Did (Grow D H H3) H3 (H3.set H.size (.cells (m.v (.slice a1 n1 c1')) true 0)) := did_set (.inr ⟨Nat.le_refl _, by omega⟩) (fun cs wr e => by rw [z3] at e; cases e)
    generalize H3.set H.size (.cells (m.v (.slice a1 n1 c1')) true 0) = H4 at hst3 z4 k4 s4 d4
    have hm4 : Mem H4 m (.slice a1 n1 c1') := hm3.keep d4.kept
    have g4 : H4.get bo = .cells [ptr bp, v] true 0 := by rw [k4 _ (by omega), x3.get _ (by omega)]; exact g2
    have ow4 : OwnC H4 11 v F.length (fcells F) := (ow2.keep s3 fun b hb => x3.get b (ow2.sz hb).2).keep (by omega) fun b hb => k4 b (by rintro rfl; exact ow2.off z2 (by omega) hb)
    have x5 : Ext H4 (H4.alloc (.cells (fcell (⟨c, 1, m⟩, .slice a1 n1 c1')) true 11)) := Ext.alloc _ _
    have ow5 := ow4.keep x5.size fun b hb => x5.get b (ow4.sz hb).2
    have hn5 : H4.size ∉ blkOf v := fun hb => by have := (ow4.sz hb).2; omega
    obtain ⟨r6, H6, ha6, ow6, s6, k6, b6⟩ := ow5.append (t := 50) (e := 75) (c := H4.size) (ex := some 1) (new := fcell (⟨c, 1, m⟩, .slice a1 n1 c1')) ty50 ty75 rfl zero75 rfl (by omega) (by decide) (AHeap.get_alloc_same _ _) hn5 rfl (Mem.onef (p := (⟨c, 1, m⟩, .slice a1 n1 c1')) hm4) (by show (_ + 1) * 136 ≤ _; omega)
    rw [AHeap.size_alloc] at s6 k6 b6
    have g6 : H6.get bo = .cells [ptr bp, v] true 0 := by rw [k6 _ (by omega) (ow4.off g4 (by omega)), x5.get _ (by omega)]; exact g4
    have hst := st_cell (E := E) (t := 50) (o := 1) (v := r6) ty50 rfl g6 (by simp) ow6.shape.1 ow6.shape.2
    rw [show splice [ptr bp, v] 1 [r6] = [ptr bp, r6] from rfl] at hst
    simp (disch := first | assumption | simp) only [↓wbD, wbU, ↓aop, ↓reduceIte, Nat.reduceEqDiff, Nat.reduceLT, reduceCtorEq, goInt, pairs, hst3, fa31_4, fa52_1, Nat.zero_add, ld_cell ty50 rfl g4, c1, ld31 z4, build75, bs50, ha6, hst]
    have d6 : Did (fun b => b ∈ blkOf v) _ H6 := ow5.did (by omega) (by rw [AHeap.size_alloc]; exact s6) (by rw [AHeap.size_alloc]; exact k6) fun b hb => hb
    have d7 : Did (fun b => b = bo) H6 (H6.set bo (.cells [ptr bp, r6] true 0)) := did_set rfl (fun cs wr e => by rw [g6] at e; cases e)
    have D2 : Did D H H2 := x1.did.trans (d2.mono fun b _ hb => .inl (by rcases hb with rfl | rfl; exact h.own.2.1; exact h.own.2.2))
    have D4 : Did D H H4 := (D2.trans x3.did).trans d4
    have D7 : Did D H (H6.set bo (.cells [ptr bp, r6] true 0)) := ((D4.trans x5.did).trans (d6.mono fun b _ hb => .inl (dv b hb))).trans (d7.mono fun b _ hb => .inl (hb ▸ h.own.1))
    have kk : ∀ b, b < H2.size → b ≠ H.size → b ∉ blkOf v → b ≠ bo → (H6.set bo (.cells [ptr bp, r6] true 0)).get b = H2.get b := fun b hb h1 h2 h3 => by
      rw [AHeap.get_set_ne _ _ (Ne.symm h3), k6 b (by omega) h2, x5.get b (by omega), k4 b h1, x3.get b hb]
    refine ⟨c, F ++ [(⟨c, 1, m⟩, .slice a1 n1 c1')], c, true, rfl, ⟨⟨r6, AHeap.get_set_same _ _ _, ?_, fun b hb => ?_⟩, ?_, fun p hp => ?_, ⟨.inl h.own.1, .inl h.own.2.1, .inl h.own.2.2⟩, h.ne, ?_⟩, D7, .inl ⟨by simp, rfl, ?_, rfl, by simp⟩⟩
    · have : OwnC H6 11 r6 (F ++ [((⟨c, 1, m⟩ : Fl), Value.slice a1 n1 c1')] : FS).length (fcells (F ++ [((⟨c, 1, m⟩ : Fl), Value.slice a1 n1 c1')] : FS)) := by rw [fcells, chunk_snoc, List.length_append]; exact ow6
      exact this.keep (by rw [AHeap.size_set]; exact Nat.le_refl _) fun b hb => AHeap.get_set_ne _ _ (by rintro rfl; exact ow6.off g6 (by omega) hb)
    · rcases b6 b hb with hb' | hb'
      · exact .inl (dv b hb')
      · exact .inr ⟨by omega, by rw [AHeap.size_set]; exact (ow6.sz hb).2⟩
    · have : Pid H2 bp bm c (ids (F ++ [((⟨c, 1, m⟩ : Fl), Value.slice a1 n1 c1')] : FS)) := by simpa [ids] using P2
      exact this.keep (by rw [AHeap.size_set]; omega) (kk bp P2.lt.1 (by omega) (ow2.off P2.gp (by omega)) (Ne.symm h.ne)) (kk bm P2.lt.2 (by omega) (by obtain ⟨es, clk, k1, _⟩ := P2.mp; exact ow2.offm k1) (Ne.symm bo_bm))
    · rcases List.mem_append.1 hp with hp | hp
      · exact (h.mem p hp).keep D7.kept
      · obtain rfl := List.mem_singleton.1 hp
        exact hm4.keep ((x5.did (D := D)).kept.trans (d6.kept.trans d7.kept))
    · rintro b (hb | hb)
      · exact Nat.lt_of_lt_of_le (h.lt b hb) D7.size
      · exact hb.2
    · rw [List.map_map]; exact hc
  · simp (disch := first | assumption | simp) only [↓wbD, wbU, ↓aop, ↓reduceIte, Nat.reduceEqDiff, Nat.reduceLT, reduceCtorEq, goInt, pairs, hv, hH1, s1, nil_ptr ty45 rfl, Option.isNone_some, e21, decide_true, decide_false, not_true_eq_false, not_false_eq_true, fa52_0, Nat.zero_add, ld_cell ty49 rfl g1, c0']
    refine (spec55 o1.pid hK).mono ?_
    rintro r H2 ⟨c, rfl, hc, P2, d2⟩
    have s2 := d2.size
    have z2 : H2.get H.size = .cells (m.v (.slice a0 n0 c0)) true 0 := by rw [d2.but.get _ (by omega) (by rintro (e | e) <;> omega)]; exact z1
    have g2 : H2.get bo = .cells [ptr bp, v] true 0 := by rw [d2.but.get _ (by omega) (by rintro (e | e); exact h.ne e; exact bo_bm e)]; exact g1
    have ow2 : OwnC H2 11 v F.length (fcells F) := ow1.keep s2 fun b hb => d2.but.get b (ow1.sz hb).2 (by
      rintro (rfl | rfl)
      · exact ow1.off o1.pid.gp (by omega) hb
      · obtain ⟨es, clk, k1, _⟩ := o1.pid.mp; exact ow1.offm k1 hb)
    have hm2 : Mem H2 m (.slice a0 n0 c0) := (hm.keep (x1.did (D := D)).kept).keep d2.kept
    simp (disch := first | assumption | simp) only [↓wbD, wbU, ↓aop, ↓reduceIte, Nat.reduceEqDiff, Nat.reduceLT, reduceCtorEq, goInt, pairs, tup0, tup1, fa31_4, Nat.zero_add, ld_cell ty29 rfl z2, m4]
    refine (spec52 hm2.1 hm2.2.1 hm2.2.2).mono ?_
    rintro r H3 ⟨hs3, x3⟩
    obtain ⟨a1, n1, c1', rfl⟩ := slice_shape hs3
    have s3 := x3.size
    have z3 : H3.get H.size = .cells (m.v (.slice a0 n0 c0)) true 0 := by rw [x3.get _ (by omega)]; exact z2
    have hm3 : Mem H3 m (.slice a1 n1 c1') := ⟨hs3, hm.2⟩
    have hst3 := st31s (a := a1) (n := n1) (c := c1') z3
    have z4 : (H3.set H.size (.cells (m.v (.slice a1 n1 c1')) true 0)).get H.size = .cells (m.v (.slice a1 n1 c1')) true 0 := AHeap.get_set_same _ _ _
    have k4 : ∀ b, b ≠ H.size → (H3.set H.size (.cells (m.v (.slice a1 n1 c1')) true 0)).get b = H3.get b := fun b hb => AHeap.get_set_ne _ _ (Ne.symm hb)
    have s4 : (H3.set H.size (.cells (m.v (.slice a1 n1 c1')) true 0)).size = H3.size := AHeap.size_set _ _ _
    have d4 : Did (Grow D H H3) H3 (H3.set H.size (.cells (m.v (.slice a1 n1 c1')) true 0)) := did_set (.inr ⟨Nat.le_refl _, by omega⟩) (fun cs wr e => by rw [z3] at e; cases e)
    generalize H3.set H.size (.cells (m.v (.slice a1 n1 c1')) true 0) = H4 at hst3 z4 k4 s4 d4
    have hm4 : Mem H4 m (.slice a1 n1 c1') := hm3.keep d4.kept
    have g4 : H4.get bo = .cells [ptr bp, v] true 0 := by rw [k4 _ (by omega), x3.get _ (by omega)]; exact g2
    have ow4 : OwnC H4 11 v F.length (fcells F) := (ow2.keep s3 fun b hb => x3.get b (ow2.sz hb).2).keep (by omega) fun b hb => k4 b (by rintro rfl; exact ow2.off z2 (by omega) hb)
    have x5 : Ext H4 (H4.alloc (.cells (fcell (⟨c, 2, m⟩, .slice a1 n1 c1')) true 11)) := Ext.alloc _ _
    have ow5 := ow4.keep x5.size fun b hb => x5.get b (ow4.sz hb).2
    have hn5 : H4.size ∉ blkOf v := fun hb => by have := (ow4.sz hb).2; omega
    obtain ⟨r6, H6, ha6, ow6, s6, k6, b6⟩ := ow5.append (t := 50) (e := 75) (c := H4.size) (ex := some 1) (new := fcell (⟨c, 2, m⟩, .slice a1 n1 c1')) ty50 ty75 rfl zero75 rfl (by omega) (by decide) (AHeap.get_alloc_same _ _) hn5 rfl (Mem.onef (p := (⟨c, 2, m⟩, .slice a1 n1 c1')) hm4) (by show (_ + 1) * 136 ≤ _; omega)
    rw [AHeap.size_alloc] at s6 k6 b6
    have g6 : H6.get bo = .cells [ptr bp, v] true 0 := by rw [k6 _ (by omega) (ow4.off g4 (by omega)), x5.get _ (by omega)]; exact g4
    have hst := st_cell (E := E) (t := 50) (o := 1) (v := r6) ty50 rfl g6 (by simp) ow6.shape.1 ow6.shape.2
    rw [show splice [ptr bp, v] 1 [r6] = [ptr bp, r6] from rfl] at hst
    simp (disch := first | assumption | simp) only [↓wbD, wbU, ↓aop, ↓reduceIte, Nat.reduceEqDiff, Nat.reduceLT, reduceCtorEq, goInt, pairs, hst3, fa31_4, fa52_1, Nat.zero_add, ld_cell ty50 rfl g4, c1, ld31 z4, build75, bs50, ha6, hst]
    have d6 : Did (fun b => b ∈ blkOf v) _ H6 := ow5.did (by omega) (by rw [AHeap.size_alloc]; exact s6) (by rw [AHeap.size_alloc]; exact k6) fun b hb => hb
    have d7 : Did (fun b => b = bo) H6 (H6.set bo (.cells [ptr bp, r6] true 0)) := did_set rfl (fun cs wr e => by rw [g6] at e; cases e)
    have D2 : Did D H H2 := x1.did.trans (d2.mono fun b _ hb => .inl (by rcases hb with rfl | rfl; exact h.own.2.1; exact h.own.2.2))
    have D4 : Did D H H4 := (D2.trans x3.did).trans d4
    have D7 : Did D H (H6.set bo (.cells [ptr bp, r6] true 0)) := ((D4.trans x5.did).trans (d6.mono fun b _ hb => .inl (dv b hb))).trans (d7.mono fun b _ hb => .inl (hb ▸ h.own.1))
    have kk : ∀ b, b < H2.size → b ≠ H.size → b ∉ blkOf v → b ≠ bo → (H6.set bo (.cells [ptr bp, r6] true 0)).get b = H2.get b := fun b hb h1 h2 h3 => by
      rw [AHeap.get_set_ne _ _ (Ne.symm h3), k6 b (by omega) h2, x5.get b (by omega), k4 b h1, x3.get b hb]
    refine ⟨c, F ++ [(⟨c, 2, m⟩, .slice a1 n1 c1')], c, true, rfl, ⟨⟨r6, AHeap.get_set_same _ _ _, ?_, fun b hb => ?_⟩, ?_, fun p hp => ?_, ⟨.inl h.own.1, .inl h.own.2.1, .inl h.own.2.2⟩, h.ne, ?_⟩, D7, .inl ⟨by simp, rfl, ?_, rfl, by simp⟩⟩
    · have : OwnC H6 11 r6 (F ++ [((⟨c, 2, m⟩ : Fl), Value.slice a1 n1 c1')] : FS).length (fcells (F ++ [((⟨c, 2, m⟩ : Fl), Value.slice a1 n1 c1')] : FS)) := by rw [fcells, chunk_snoc, List.length_append]; exact ow6
      exact this.keep (by rw [AHeap.size_set]; exact Nat.le_refl _) fun b hb => AHeap.get_set_ne _ _ (by rintro rfl; exact ow6.off g6 (by omega) hb)
    · rcases b6 b hb with hb' | hb'
      · exact .inl (dv b hb')
      · exact .inr ⟨by omega, by rw [AHeap.size_set]; exact (ow6.sz hb).2⟩
    · have : Pid H2 bp bm c (ids (F ++ [((⟨c, 2, m⟩ : Fl), Value.slice a1 n1 c1')] : FS)) := by simpa [ids] using P2
      exact this.keep (by rw [AHeap.size_set]; omega) (kk bp P2.lt.1 (by omega) (ow2.off P2.gp (by omega)) (Ne.symm h.ne)) (kk bm P2.lt.2 (by omega) (by obtain ⟨es, clk, k1, _⟩ := P2.mp; exact ow2.offm k1) (Ne.symm bo_bm))
    · rcases List.mem_append.1 hp with hp | hp
      · exact (h.mem p hp).keep D7.kept
      · obtain rfl := List.mem_singleton.1 hp
        exact hm4.keep ((x5.did (D := D)).kept.trans (d6.kept.trans d7.kept))
    · rintro b (hb | hb)
      · exact Nat.lt_of_lt_of_le (h.lt b hb) D7.size
      · exact hb.2
    · rw [List.map_map]; exact hc
end Go.Proofs.Ytlmcjfnignbdoaa.Abs
