/-
  A part of a law's proof.
-/
import Derived.Test.YtlmcjfnignbdoaaAOh
namespace Go.Proofs.Ytlmcjfnignbdoaa.Abs
open Go AbsYtlmcjfnignbdoaa
set_option maxRecDepth 100000
set_option maxHeartbeats 4000000
set_option linter.unusedSimpArgs false
set_option linter.unusedVariables false
def acell (p : Act × Value) : List Value := p.1.v p.2
abbrev acells (AS : List (Act × Value)) : List Value := AS.flatMap acell
theorem acell_len (p : Act × Value) : (acell p).length = 14 := rfl
def ActsAt (H : AHeap) (v : Value) (AS : List (Act × Value)) : Prop := (v = .slice none 0 0 ∧ AS = []) ∨ ∃ b, v = .slice (some ⟨b, 0, none⟩) AS.length AS.length ∧ H.get b = .cells (acells AS) false 14 ∧ b < H.size
def ActMem (H : AHeap) (AS : List (Act × Value)) : Prop := ∀ p ∈ AS, SliceAt H 4 p.2 p.1.m.n p.1.m.cs ∧ PropCells p.1.m.cs
theorem ActsAt.ext {H H' : AHeap} {v : Value} {AS : List (Act × Value)} (h : ActsAt H v AS) (x : Ext H H') : ActsAt H' v AS := by
  rcases h with h | ⟨b, h1, h2, h3⟩
  · exact .inl h
  · exact .inr ⟨b, h1, by rw [x.get _ h3]; exact h2, Nat.lt_of_lt_of_le h3 x.size⟩
theorem ActsAt.len {H : AHeap} {v : Value} {AS : List (Act × Value)} (h : ActsAt H v AS) {ts : List Nat} : abuiltin E H .len (43 :: ts) [v] = some (goInt AS.length, H) := by
  rcases h with ⟨rfl, rfl⟩ | ⟨b, rfl, _⟩
  · simp [abuiltin, ty43]
  · simp [abuiltin, ty43]
theorem ActsAt.at {H : AHeap} {v : Value} {AS : List (Act × Value)} (h : ActsAt H v AS) {i : Nat} (hi : i < AS.length) : ∃ b, aindexAddr E 43 v (.int .i64 i) = some (.pointer (some ⟨b, i * 14, none⟩)) ∧ aload E H 55 (.pointer (some ⟨b, i * 14, none⟩)) = some (.agg (acell AS[i]).toArray) ∧ aload E H 31 (.pointer (some ⟨b, i * 14 + 1, none⟩)) = some (.agg (AS[i].1.m.v AS[i].2).toArray) := by
  rcases h with ⟨_, rfl⟩ | ⟨b, rfl, h2, _⟩
  · simp at hi
  have hf := chunk_fit acell_len hi (Nat.le_refl 14)
  refine ⟨b, ?_, ?_, ?_⟩
  · have := ia_slice (E := E) ty43 ty55 (B := b) (o := 0) (c := AS.length) (ex := none) (k := .i64) hi
    simpa using this
  · rw [ld_agg ty55 rfl h2 (show i * 14 + 14 ≤ _ by omega)]
    rw [chunk_at acell_len AS i hi]
  · rw [ld_agg ty31 rfl h2 (show i * 14 + 1 + 9 ≤ (AS.flatMap acell).length by omega)]
    show some (Value.agg (((AS.flatMap acell).drop (i * 14 + 1)).take 9).toArray) = _
    rw [chunk_part acell_len hi (show 1 + 9 ≤ 14 by omega)]
    rfl
theorem spec25 {H : AHeap} {v : Value} {AS : List (Act × Value)} (h : ActsAt H v AS) (hm : ActMem H AS) : CallW E 25 [v] H fun r H' => (∃ b, r = .bool b ∧ (b = true → AS.length ≤ 40 ∧ ∀ p ∈ AS, p.1.m.n ≤ 70)) ∧ Ext H H' := by
  refine call25 (by simp) ?_
  simp only [strip, bodyOf, Try.f25, getD_body, keepN, bareOp_mk, lessOp_mk, lapp_cons, lapp_nil, List.map_cons, List.map_nil, array_toList, ↓reduceIte, Nat.reduceEqDiff, Bool.false_eq_true]
  simp (disch := first | assumption | simp) only [↓wbD, wbU, ↓aop, ↓reduceIte, Nat.reduceEqDiff, Nat.reduceLT, reduceCtorEq, goInt, pairs]
  refine W_loop (fun f H' => Ext H H' ∧ f 0 = v ∧ ∃ i : Nat, i ≤ AS.length ∧ i ≤ 40 ∧ f 3 = .int .i64 i ∧ ∀ j (hj : j < AS.length), j < i → (AS[j]).1.m.n ≤ 70) (fun f _ => match f 3 with | .int _ i => 40 - i.toNat | _ => 0) ?_ ?_
  · refine ⟨Ext.refl _, ?_, 0, by omega, by omega, ?_, fun j _ hj => by omega⟩
    · simp (disch := first | assumption | simp) only [↓wbD, wbU, ↓aop, ↓reduceIte, Nat.reduceEqDiff, Nat.reduceLT, reduceCtorEq, goInt, pairs]
    · simp (disch := first | assumption | simp) only [↓wbD, wbU, ↓aop, ↓reduceIte, Nat.reduceEqDiff, Nat.reduceLT, reduceCtorEq, goInt, pairs]
      rfl
  rintro f H1 ⟨x1, f0, i, hi, hi4, f3, hs⟩
  have h1 := h.ext x1
  have hlen := h1.len (ts := [])
  by_cases hin : (i : Int) < (AS.length : Int)
  · by_cases hi40 : (i : Int) < 40
    · obtain ⟨b, k1, _, k3⟩ := h1.at (i := i) (by omega)
      have hw := wrap_nat (n := i) (by omega)
      obtain ⟨q1, q2⟩ := hm _ (List.getElem_mem (show i < AS.length by omega))
      simp (disch := first | assumption | simp) only [↓wbD, wbU, ↓aop, ↓reduceIte, Nat.reduceEqDiff, Nat.reduceLT, reduceCtorEq, goInt, pairs, f0, f3, hlen, hin, hi40, decide_true, k1, fa55_1, k3]
      refine (spec20 (q1.ext x1) q2).mono ?_
      rintro r H2 ⟨⟨b2, rfl, hb2⟩, x2⟩
      cases b2 with
      | false =>
        simp (disch := first | assumption | simp) only [↓wbD, wbU, ↓aop, ↓reduceIte, Nat.reduceEqDiff, Nat.reduceLT, reduceCtorEq, goInt, pairs, not_bool, Bool.not_false]
        exact ⟨⟨false, rfl, by simp⟩, x1.trans x2⟩
      | true =>
        simp (disch := first | assumption | simp) only [↓wbD, wbU, ↓aop, ↓reduceIte, Nat.reduceEqDiff, Nat.reduceLT, reduceCtorEq, goInt, pairs, not_bool, Bool.not_true, f3, hw]
        refine ⟨_, rfl, ⟨x1.trans x2, ?_, i + 1, by omega, by omega, ?_, fun j hj hji => ?_⟩, ?_⟩
        · simp (disch := first | assumption | simp) only [↓wbD, wbU, ↓aop, ↓reduceIte, Nat.reduceEqDiff, Nat.reduceLT, reduceCtorEq, goInt, pairs, f0]
        · simp (disch := first | assumption | simp) only [↓wbD, wbU, ↓aop, ↓reduceIte, Nat.reduceEqDiff, Nat.reduceLT, reduceCtorEq, goInt, pairs]
        · by_cases he : j = i
          · subst he; exact hb2 rfl
          · exact hs j hj (by omega)
        · simp (disch := first | assumption | simp) only [↓wbD, wbU, ↓aop, ↓reduceIte, Nat.reduceEqDiff, Nat.reduceLT, reduceCtorEq, goInt, pairs, f3]
          simp; omega
    · simp (disch := first | assumption | simp) only [↓wbD, wbU, ↓aop, ↓reduceIte, Nat.reduceEqDiff, Nat.reduceLT, reduceCtorEq, goInt, pairs, f0, f3, hlen, hin, hi40, decide_true, decide_false]
      exact ⟨⟨_, rfl, by simp; omega⟩, x1⟩
  · simp (disch := first | assumption | simp) only [↓wbD, wbU, ↓aop, ↓reduceIte, Nat.reduceEqDiff, Nat.reduceLT, reduceCtorEq, goInt, pairs, f0, f3, hlen, hin, decide_false]
    refine ⟨⟨_, rfl, fun hb => ⟨by have := of_decide_eq_true hb; omega, fun p hp => ?_⟩⟩, x1⟩
    obtain ⟨j, hj, rfl⟩ := List.getElem_of_mem hp
    exact hs j hj (by omega)
/-! ### what holds of the flights -/
structure Good (A : List Fl) : Prop where
  nd : (A.map (·.id)).Nodup
  st : ∀ f ∈ A, 1 ≤ f.st ∧ f.st ≤ 3
  id : ∀ f ∈ A, 1 ≤ f.id
theorem Good.nil : Good [] := ⟨by simp, by simp, by simp⟩
theorem Good.sub {A B : List Fl} (h : Good A) (hs : List.Sublist B A) : Good B :=
  ⟨List.Nodup.sublist (List.Sublist.map _ hs) h.nd, fun f hf => h.st f (hs.subset hf), fun f hf => h.id f (hs.subset hf)⟩
theorem SendIs.good {last : Int} {A : List Fl} {q : Int} {m : Msg} {l1 x1 : Int} {A1 : List Fl} {o1 : Bool} (hs : SendIs last A q m l1 A1 x1 o1) (h : Good A) : Good A1 ∧ A1.length = A.length + (if o1 then 1 else 0) := by
  rcases hs with ⟨h0, rfl, ⟨j, hj, rfl⟩, rfl, rfl⟩ | ⟨h0, rfl, rfl, rfl, rfl⟩
  · refine ⟨⟨?_, fun f hf => ?_, fun f hf => ?_⟩, by simp⟩
    · rw [List.map_append, List.nodup_append]
      refine ⟨h.nd, by simp, ?_⟩
      intro a ha b hb
      simp at hb
      subst hb
      rintro rfl
      exact hj.2 ha
    · rcases List.mem_append.1 hf with hf | hf
      · exact h.st f hf
      · obtain rfl := List.mem_singleton.1 hf; show 1 ≤ q ∧ q ≤ 3; omega
    · rcases List.mem_append.1 hf with hf | hf
      · exact h.id f hf
      · obtain rfl := List.mem_singleton.1 hf; exact cand_lo
  · exact ⟨h, by simp⟩
theorem set_ids {A : List Fl} {k : Nat} {f : Fl} (hk : A[k]? = some f) : (A.set k (f.put 3)).map (·.id) = A.map (·.id) := by
  rw [List.map_set]
  have : (A.map (·.id))[k]? = some f.id := by rw [List.getElem?_map, hk]; rfl
  obtain ⟨h1, h2⟩ := List.getElem?_eq_some_iff.1 this
  show (A.map (·.id)).set k f.id = _
  rw [← h2]
  exact List.set_getElem_self h1
theorem ackF.good {A : List Fl} {t id rs : Int} {code : Int} {m : Msg} {A' : List Fl} (hs : ackF A t id rs = (code, m, A')) (h : Good A) : Good A' ∧ ((code = 1 ∨ code = 2 ∨ code = 4) ∧ A'.length + 1 = A.length ∨ ¬ (code = 1 ∨ code = 2 ∨ code = 4) ∧ A'.length = A.length) := by
  unfold ackF at hs
  split at hs
  · injection hs with e1 e2; injection e2 with e2 e3; subst e1; subst e3
    exact ⟨h, .inr ⟨by omega, rfl⟩⟩
  split at hs
  · injection hs with e1 e2; injection e2 with e2 e3; subst e1; subst e3
    exact ⟨h, .inr ⟨by omega, rfl⟩⟩
  rename_i f hf
  obtain ⟨hlt, hfe⟩ := List.getElem?_eq_some_iff.1 hf
  split at hs
  · injection hs with e1 e2; injection e2 with e2 e3; subst e1; subst e3
    exact ⟨h, .inr ⟨by omega, rfl⟩⟩
  split at hs
  · injection hs with e1 e2; injection e2 with e2 e3; subst e1; subst e3
    have hmem : f ∈ A := by rw [← hfe]; exact List.getElem_mem hlt
    refine ⟨⟨by rw [set_ids hf]; exact h.nd, fun g hg => ?_, fun g hg => ?_⟩, .inr ⟨by omega, by simp⟩⟩
    · rcases List.mem_or_eq_of_mem_set hg with hg | rfl
      · exact h.st g hg
      · show 1 ≤ (3 : Int) ∧ (3 : Int) ≤ 3; omega
    · rcases List.mem_or_eq_of_mem_set hg with hg | rfl
      · exact h.id g hg
      · exact h.id f hmem
  · injection hs with e1 e2; injection e2 with e2 e3; subst e1; subst e3
    refine ⟨h.sub (List.eraseIdx_sublist ..), .inl ⟨?_, by rw [List.length_eraseIdx_of_lt hlt]; omega⟩⟩
    split
    · exact .inr (.inr rfl)
    · split
      · exact .inr (.inl rfl)
      · exact .inl rfl
theorem filter_two : ∀ A : List Fl, (A.filter stays).length + (A.filter fun f => !stays f).length = A.length
  | [] => rfl
  | a :: A => by
    have := filter_two A
    cases h : stays a <;> simp [List.filter_cons, h] <;> omega
theorem groupF.good {A : List Fl} {G : List Msg} {A' : List Fl} (hs : groupF A = (G, A')) (h : Good A) : Good A' ∧ A'.length + G.length = A.length := by
  injection hs with e1 e2; subst e1; subst e2
  refine ⟨h.sub List.filter_sublist, ?_⟩
  rw [List.length_map]
  exact filter_two A
theorem Good.ids {F : FS} (h : Good (F.map (·.1))) : (ids F).Nodup := by
  have := h.nd
  rw [List.map_map] at this
  exact this
end Go.Proofs.Ytlmcjfnignbdoaa.Abs
