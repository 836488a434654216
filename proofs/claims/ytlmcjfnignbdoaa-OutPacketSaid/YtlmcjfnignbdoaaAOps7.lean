/-
  Operations: arithmetic and comparisons, the remaining builtin functions, conversions.
-/
import Derived.Test.YtlmcjfnignbdoaaAOps6
import Derived.Laws.IdiomStrings
namespace AbsYtlmcjfnignbdoaa
set_option linter.unusedVariables false
set_option linter.unusedSimpArgs false
set_option linter.unusedSectionVars false
open Go

section
variable {E : Env} {ι : Emb} {H H' : AHeap} {w : World}

theorem binOp_eql {P : Program} {t : Nat} {x y : Value} (hx : nonNum x = true) (hy : nonNum y = true) : (binOp .eql t x y).run P w = ((Op.equal t x y).run P w).andThen fun b w' => .ok (.bool b) w' := by
  cases x <;> simp [nonNum] at hx <;> cases y <;> simp [nonNum] at hy <;> simp only [binOp, Sem.run_bind, Sem.run_pure]
theorem binOp_neq {P : Program} {t : Nat} {x y : Value} (hx : nonNum x = true) (hy : nonNum y = true) : (binOp .neq t x y).run P w = ((Op.equal t x y).run P w).andThen fun b w' => .ok (.bool (!b)) w' := by
  cases x <;> simp [nonNum] at hx <;> cases y <;> simp [nonNum] at hy <;> simp only [binOp, Sem.run_bind, Sem.run_pure]
theorem RV.nonNum {v v' : Value} (h : RV ι v v') (hn : AbsYtlmcjfnignbdoaa.nonNum v = true) : AbsYtlmcjfnignbdoaa.nonNum v' = true := by
  cases h <;> first | rfl | simp [AbsYtlmcjfnignbdoaa.nonNum] at hn

theorem eqGuard_sim (hE : TyOk E) {op : BinOp} {t : Nat} {x y : Operand} {a a' b b' : Value} (ha : RV ι a a') (hb : RV ι b b') (hok : eqAsk E t (isConst x || isConst y) a b = true) :
    (eqGuard op t x y a' b').run E.P w = .ok () w := by
  unfold eqGuard
  have hsplit : ∀ (body : Sem Unit), body.run E.P w = .ok () w → (do
      if !(match op with | .eql | .neq => true | _ => false) then return
      body : Sem Unit).run E.P w = .ok () w := by
    intro body hb
    cases op <;> first | exact hb | rfl
  apply hsplit
  unfold eqAsk at hok
  split at hok
  · cases ha; cases hb
    cases x <;> cases y <;> first | rfl | simp [isConst] at hok
  · cases ha; cases hb
    split at hok
    rotate_left
    · cases hok
    rename_i i ht
    obtain ⟨inft, d, ht1, ht2, ht3, ht4, ht5, ht6, ht7⟩ := ti_parts hE ht
    have := (ht7 hok).2
    simp [this]
  · rename_i h1 h2
    cases ha <;> cases hb <;> first | rfl | exact (h1 rfl rfl).elim | exact (h2 _ _ rfl rfl).elim

theorem intBits_run {P : Program} (k : IntKind) (r : BitVec k.bits) : (pure (.int k (k.wrap r.toNat)) : Sem Value).run P w = .ok (abits k r) w := rfl

theorem aint_sim {P : Program} {op : BinOp} {k : IntKind} {a b : Int} {v : Value} {t : Nat} (h : aint op k a b = some v) : (binOp op t (.int k a) (.int k b)).run P w = .ok v w ∧ RV ι v v := by
  unfold aint at h
  split at h <;> first
    | (injection h with h; subst h; refine ⟨?_, by constructor⟩; simp only [binOp, ne_eq, not_true_eq_false, if_false, Op.intArith, Op.intBits, Op.intCmp]; rfl)
    | (split at h
       · cases h
       · rename_i h0
         injection h with h; subst h; refine ⟨?_, by constructor⟩; simp only [binOp, ne_eq, not_true_eq_false, if_false, Op.intDiv, if_neg h0]; rfl)
    | cases h

theorem ashift_sim {P : Program} {left : Bool} {k k' : IntKind} {a b : Int} {v : Value} {t : Nat} (h : ashift left k a b = some v) :
    (binOp (if left then .shl else .shr) t (.int k a) (.int k' b)).run P w = .ok v w ∧ RV ι v v := by
  unfold ashift at h
  split at h
  · cases h
  rename_i h0
  cases left
  · simp at h; subst h
    exact ⟨by simp only [binOp, Op.shift, if_neg h0, Bool.false_eq_true, if_false]; rfl, .int _ _⟩
  · simp at h; subst h
    exact ⟨by simp only [binOp, Op.shift, if_neg h0, if_true]; rfl, .int _ _⟩

theorem astr_sim {P : Program} {op : BinOp} {a b : ByteArray} {v : Value} {t : Nat} (h : astr op a b = some v) : (binOp op t (.string a) (.string b)).run P w = .ok v w ∧ RV ι v v := by
  unfold astr at h
  split at h <;> first
    | (injection h with h; subst h; exact ⟨rfl, by constructor⟩)
    | (split at h
       · rename_i h0
         injection h with h; subst h
         refine ⟨?_, .string _⟩
         have : ¬ (((a.size + b.size : Nat) : Int) > IntKind.i64.max) := by
           have : IntKind.i64.max = 9223372036854775807 := by decide
           omega
         simp only [binOp, Op.stringOp, if_neg this]; rfl
       · cases h)
    | cases h

theorem abin_sim (hE : TyOk E) (h : Rel E ι H w) {op : BinOp} {t : Nat} {x y : Operand} {a a' b b' v : Value} (ha : RV ι a a') (hb : RV ι b b') (hs : abin E H op t (isConst x || isConst y) a b = some v) :
    ∃ v', (do eqGuard op t x y a' b'; binOp op t a' b' : Sem Value).run E.P w = .ok v' w ∧ RV ι v v' := by
  unfold abin at hs
  split at hs
  · rename_i k n k' m
    have hg := eqGuard_sim (w := w) (op := op) (t := t) (x := x) (y := y) hE ha hb (by simp [eqAsk])
    cases ha; cases hb
    simp only [Sem.run_bind, hg, Result.andThen_ok]
    split at hs
    · obtain ⟨h1, h2⟩ := ashift_sim (ι := ι) (w := w) (P := E.P) (t := t) (k' := k') hs
      exact ⟨v, h1, h2⟩
    · obtain ⟨h1, h2⟩ := ashift_sim (ι := ι) (w := w) (P := E.P) (t := t) (k' := k') hs
      exact ⟨v, h1, h2⟩
    · split at hs
      · rename_i hk
        subst hk
        obtain ⟨h1, h2⟩ := aint_sim (ι := ι) (w := w) (P := E.P) (t := t) hs
        exact ⟨v, h1, h2⟩
      · cases hs
  · have hg := eqGuard_sim (w := w) (op := op) (t := t) (x := x) (y := y) hE ha hb (by simp [eqAsk])
    cases ha; cases hb
    simp only [Sem.run_bind, hg, Result.andThen_ok]
    obtain ⟨h1, h2⟩ := astr_sim (ι := ι) (w := w) (P := E.P) (t := t) hs
    exact ⟨v, h1, h2⟩
  · split at hs
    rotate_left
    · cases hs
    rename_i hc
    simp only [Bool.and_eq_true] at hc
    obtain ⟨⟨hx, hy⟩, hask⟩ := hc
    have hg := eqGuard_sim (w := w) (op := op) (t := t) (x := x) (y := y) hE ha hb hask
    simp only [Sem.run_bind, hg, Result.andThen_ok]
    split at hs
    · cases hq : aeq E H 64 t a b with
      | none => simp [hq] at hs
      | some r =>
        simp [hq] at hs; subst hs
        refine ⟨.bool r, ?_, .bool r⟩
        rw [binOp_eql (ha.nonNum hx) (hb.nonNum hy)]
        have := aeq_sim hE h 64 10000 t a a' b b' r (by omega) ha hb hq
        rw [show Op.equal t a' b' = Op.equalIn 10000 t a' b' from rfl, this]; rfl
    · cases hq : aeq E H 64 t a b with
      | none => simp [hq] at hs
      | some r =>
        simp [hq] at hs; subst hs
        refine ⟨.bool (!r), ?_, .bool _⟩
        rw [binOp_neq (ha.nonNum hx) (hb.nonNum hy)]
        have := aeq_sim hE h 64 10000 t a a' b b' r (by omega) ha hb hq
        rw [show Op.equal t a' b' = Op.equalIn 10000 t a' b' from rfl, this]; rfl
    · cases hs

theorem aun_sim {P : Program} {op : UnOp} {x x' v : Value} (hx : RV ι x x') (hs : aun op x = some v) : ∃ v', (Op.unary op x').run P w = .ok v' w ∧ RV ι v v' := by
  unfold aun at hs
  split at hs
  · cases hx; injection hs with hs; subst hs; exact ⟨_, rfl, .int _ _⟩
  · cases hx; injection hs with hs; subst hs; exact ⟨_, rfl, .int _ _⟩
  · cases hx; injection hs with hs; subst hs; exact ⟨_, rfl, .bool _⟩
  · cases hs

theorem aminmaxF_sim {P : Program} {mn : Bool} {k : IntKind} : ∀ {xs xs' : List Value} {x : Int} {v : Value}, RVs ι xs xs' → aminmaxF mn k x xs = some v →
    (xs'.foldlM (if mn then Builtin.min2 else Builtin.max2) (.int k x) : Sem Value).run P w = .ok v w ∧ RV ι v v
  | [], xs', x, v, h, hs => by
    cases h
    simp [aminmaxF] at hs; subst hs
    exact ⟨rfl, .int _ _⟩
  | y :: xs, xs', x, v, h, hs => by
    cases h with | cons _ y' _ xs' hy hys =>
    cases y <;> simp only [aminmaxF] at hs <;> try (cases hs; done)
    rename_i k' n
    cases hy
    split at hs
    rotate_left
    · cases hs
    rename_i hk
    subst hk
    obtain ⟨h1, h2⟩ := aminmaxF_sim (P := P) hys hs
    refine ⟨?_, h2⟩
    rw [List.foldlM_cons]
    cases mn
    · simp only [Bool.false_eq_true, if_false, Builtin.max2, Sem.run_bind, Sem.run_pure, Result.andThen_ok] at h1 ⊢
      exact h1
    · simp only [if_true, Builtin.min2, Sem.run_bind, Sem.run_pure, Result.andThen_ok] at h1 ⊢
      exact h1

end
end AbsYtlmcjfnignbdoaa
