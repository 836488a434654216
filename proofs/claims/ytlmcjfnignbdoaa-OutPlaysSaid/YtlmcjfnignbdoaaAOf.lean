/-
  A part of a law's proof.
-/
import Derived.Test.YtlmcjfnignbdoaaAOe
namespace Go.Proofs.Ytlmcjfnignbdoaa.Abs
open Go AbsYtlmcjfnignbdoaa
set_option maxRecDepth 100000
set_option maxHeartbeats 4000000
set_option linter.unusedSimpArgs false
set_option linter.unusedVariables false
/-- a packet with a kind, a number and a reason -/
def pkV (a b c : Int) : List Value :=
  [.int .i64 a, .int .i64 b, .int .i64 c, .slice none 0 0, .bool false, .int .i64 0, .string ⟨#[]⟩, .bool false, .string ⟨#[]⟩, .string ⟨#[]⟩, .int .i64 0, .bool false, .slice none 0 0, .bool false, .string ⟨#[]⟩, .bool false, .string ⟨#[]⟩, .bool false,
    .string ⟨#[]⟩, .string ⟨#[]⟩, .int .i64 0, .bool false, .bool false, .slice none 0 0, .slice none 0 0, .slice none 0 0]
theorem build40k {a b c : Int} : abuild E 40 [(0, .int .i64 a), (1, .int .i64 b), (2, .int .i64 c)] = some (.agg (pkV a b c).toArray) := by kernel_rfl
theorem st40k {H : AHeap} {b : Nat} {zs : List Value} {x y z : Int} (hg : H.get b = .cells zs true 0) (hz : zs.length = 26) :
    astore E H 40 (.pointer (some ⟨b, 0, none⟩)) (.agg (pkV x y z).toArray) = some (H.set b (.cells (pkV x y z) true 0)) := by
  simp [astore, ty40, astoreAt, hg, vcells, pkV, splice, hz, oneCell, List.drop_eq_nil_of_le (Nat.le_of_eq hz)]
/-- one thing that is done -/
structure Act where
  kind : Int
  m : Msg
  q : Int
  t : Int
  id : Int
  rs : Int
def Act.v (a : Act) (sl : Value) : List Value := .int .i64 a.kind :: (a.m.v sl ++ [.int .i64 a.q, .int .i64 a.t, .int .i64 a.id, .int .i64 a.rs])
theorem spec31 {H : AHeap} {a : Act} {sl : Value} : CallW E 31 [.agg (a.v sl).toArray] H fun r H' => r = .agg (pkV a.t a.id a.rs).toArray ∧ Ext H H' := by
  refine call31 (by simp) ?_
  simp only [strip, bodyOf, Try.f31, getD_body, keepN, bareOp_mk, lessOp_mk, lapp_cons, lapp_nil, List.map_cons, List.map_nil, array_toList, ↓reduceIte, Nat.reduceEqDiff, Bool.false_eq_true]
  have hv : vcells (.agg (a.v sl).toArray) = a.v sl := rfl
  have m11 : (a.v sl)[11]? = some (.int .i64 a.t) := rfl
  have m12 : (a.v sl)[12]? = some (.int .i64 a.id) := rfl
  have m13 : (a.v sl)[13]? = some (.int .i64 a.rs) := rfl
  obtain ⟨zs, hz, hzl⟩ : ∃ zs, azero E 40 = some zs ∧ zs.length = 26 := ⟨_, zero40, rfl⟩
  have z1 : ((H.alloc (.cells (a.v sl) true 0)).alloc (.cells zs true 0)).get H.size = .cells (a.v sl) true 0 := by rw [AHeap.get_alloc_ne _ _ (by rw [AHeap.size_alloc]; omega)]; exact AHeap.get_alloc_same _ _
  have z2 : ((H.alloc (.cells (a.v sl) true 0)).alloc (.cells zs true 0)).get (H.size + 1) = .cells zs true 0 := AHeap.get_alloc_same _ _
  have x2 : Ext H ((H.alloc (.cells (a.v sl) true 0)).alloc (.cells zs true 0)) := (Ext.alloc _ _).trans (Ext.alloc _ _)
  have s1 : (H.alloc (.cells (a.v sl) true 0)).size = H.size + 1 := AHeap.size_alloc _ _
  generalize hG_M : a.v sl = M at *
  generalize hH2 : (H.alloc (.cells M true 0)).alloc (.cells zs true 0) = H2 at *
  simp (disch := first | assumption | simp) only [↓wbD, wbU, ↓aop, ↓reduceIte, Nat.reduceEqDiff, Nat.reduceLT, reduceCtorEq, goInt, pairs, hG_M, hv, hz, s1, hH2, fa55_3, fa55_4, fa55_5, Nat.zero_add, ld_cell ty3 rfl z1, m11, m12, m13, build40k, st40k z2 hzl, ld40 (AHeap.get_set_same H2 (H.size + 1) (.cells (pkV a.t a.id a.rs) true 0)) rfl]
  exact ⟨by rw [AHeap.size_set]; exact x2.size, fun b hb => by rw [AHeap.get_set_ne _ _ (by omega)]; exact x2.get b hb⟩
def m0 : Msg := ⟨⟨#[]⟩, ⟨#[]⟩, 0, false, 0, [], ⟨#[]⟩, 0, 0, ⟨#[]⟩⟩
theorem m0_mem {H : AHeap} : Mem H m0 (.slice none 0 0) := ⟨SliceAt.nil, trivial, by show 0 ≤ 70; omega⟩
/-- what Ack does -/
def ackF (A : List Fl) (t id rs : Int) : Int × Msg × List Fl :=
  if awaitsF t = 0 then (5, m0, A)
  else match A[fidx A id]? with
    | none => (0, m0, A)
    | some f => if f.st ≠ awaitsF t then (5, m0, A)
      else if awaitsF t = 2 ∧ badF rs = false then (3, f.m, A.set (fidx A id) (f.put 3))
      else (if awaitsF t = 3 then 4 else if badF rs then 2 else 1, f.m, A.eraseIdx (fidx A id))
theorem st31 {H : AHeap} {b : Nat} {zs : List Value} {m : Msg} {sl : Value} (hg : H.get b = .cells zs true 0) (hz : zs.length = 9) (ho : (m.v sl).all oneCell = true) :
    astore E H 31 (.pointer (some ⟨b, 0, none⟩)) (.agg (m.v sl).toArray) = some (H.set b (.cells (m.v sl) true 0)) := by
  have hl : (m.v sl).length = 9 := rfl
  simp only [astore, ty31, vcells, astoreAt, hg]
  simp [hl, ho, hz, splice, List.drop_eq_nil_of_le (Nat.le_of_eq hz)]
theorem chunk_set {α : Type} {f : α → List Value} {k : Nat} (hf : ∀ a, (f a).length = k) : ∀ (l : List α) (i j : Nat) (a' : α) (v : Value) (h : i < l.length), j < k → f a' = (f l[i]).set j v → (l.flatMap f).set (i * k + j) v = (l.set i a').flatMap f
  | a :: l, 0, j, a', v, h, hj, he => by
    simp only [List.getElem_cons_zero] at he
    rw [List.set_cons_zero, List.flatMap_cons, List.flatMap_cons, he, Nat.zero_mul, Nat.zero_add, List.set_append_left _ _ (by rw [hf]; exact hj)]
  | a :: l, i + 1, j, a', v, h, hj, he => by
    simp only [List.getElem_cons_succ] at he
    rw [List.set_cons_succ, List.flatMap_cons, List.flatMap_cons, List.set_append_right _ _ (by rw [hf, Nat.add_mul]; omega), hf, show (i + 1) * k + j - k = i * k + j by rw [Nat.add_mul]; omega, chunk_set hf l i j a' v (by simpa using h) hj he]
theorem fs_set {F : FS} {k : Nat} {sp : List Value} (hk : k < F.length) (st : Int) : splice (fcells F ++ sp) (k * 11 + 1) [.int .i64 st] = fcells (F.set k (((F[k]).1.put st), (F[k]).2)) ++ sp := by
  have hf : k * 11 + 11 ≤ (fcells F).length := chunk_fit fcell_len hk (Nat.le_refl 11)
  rw [splice_one (by rw [List.length_append]; omega), List.set_append_left _ _ (by omega), fcells, chunk_set fcell_len F k 1 ((F[k]).1.put st, (F[k]).2) (.int .i64 st) hk (by omega) rfl]
theorem OutI.set_st {H : AHeap} {D : Nat → Prop} {bo bp bm : Nat} {last : Int} {F : FS} {k : Nat} {v : Value} {b c : Nat} {ex : Option Nat} {sp : List Value} (h : OutI H D bo bp bm last F) (hk : k < F.length) (hgo : H.get bo = .cells [ptr bp, v] true 0) (hv : v = .slice (some ⟨b, 0, ex⟩) F.length c) (hg : H.get b = .cells (fcells F ++ sp) true 11) (st : Int) :
    OutI (H.set b (.cells (fcells (F.set k (((F[k]).1.put st), (F[k]).2)) ++ sp) true 11)) D bo bp bm last (F.set k (((F[k]).1.put st), (F[k]).2)) ∧ Did D H (H.set b (.cells (fcells (F.set k (((F[k]).1.put st), (F[k]).2)) ++ sp) true 11)) := by
  obtain ⟨⟨v', g1, g2, g3⟩, p, m, ⟨o1, o2, o3⟩, ne, lt⟩ := h
  have hvv : v' = v := by rw [hgo] at g1; simpa using g1.symm
  subst hvv
  have hids : ids (F.set k (((F[k]).1.put st), (F[k]).2)) = ids F := by
    simp only [ids, List.map_set]
    show (F.map (·.1.id)).set k (F[k]).1.id = _
    rw [show (F[k]).1.id = (F.map (·.1.id))[k]'(by simpa using hk) by simp, List.set_getElem_self]
  have hbD : D b := g3 b (by simp [hv, blkOf])
  have hd : Did D H (H.set b (.cells (fcells (F.set k (((F[k]).1.put st), (F[k]).2)) ++ sp) true 11)) := did_set hbD (fun cs wr e => by rw [hg] at e; cases e)
  have hbo : bo ≠ b := by rintro rfl; rw [hg] at g1; injection g1 with _ _ e; cases e
  have hbp : bp ≠ b := by rintro rfl; have := p.gp; rw [hg] at this; injection this with _ _ e; cases e
  have hbm : bm ≠ b := by rintro rfl; obtain ⟨es, clk, k1, _⟩ := p.mp; rw [hg] at k1; cases k1
  refine ⟨⟨⟨v', by rw [AHeap.get_set_ne _ _ (Ne.symm hbo)]; exact g1, ?_, g3⟩, ?_, fun p' hp => ?_, ⟨o1, o2, o3⟩, ne, fun x hx => by rw [AHeap.size_set]; exact lt x hx⟩, hd⟩
  · rcases g2 with ⟨hn, _⟩ | ⟨b', c', ex', sp', he, h1, h2, h3, h4, h5⟩
    · rw [hn] at hv; cases hv
    · rw [hv] at he
      injection he with he1 _ he3
      injection he1 with he1
      injection he1 with he1 _ he4
      subst he1; subst he3; subst he4
      rw [hg] at h1
      injection h1 with h1 _ _
      obtain rfl := List.append_cancel_left h1
      rw [hv]
      refine .inr ⟨b, c, ex, sp, by rw [List.length_set], AHeap.get_set_same _ _ _, ?_, by rw [List.length_set]; exact h3, h4, by rw [AHeap.size_set]; exact h5⟩
      rw [chunk_len fcell_len]
  · rw [hids]
    exact p.keep (by rw [AHeap.size_set]; exact Nat.le_refl _) (AHeap.get_set_ne _ _ (Ne.symm hbp)) (AHeap.get_set_ne _ _ (Ne.symm hbm))
  · rcases List.mem_or_eq_of_mem_set hp with hp | rfl
    · exact (m p' hp).keep hd.kept
    · exact (m (F[k]) (List.getElem_mem hk)).keep hd.kept
end Go.Proofs.Ytlmcjfnignbdoaa.Abs
