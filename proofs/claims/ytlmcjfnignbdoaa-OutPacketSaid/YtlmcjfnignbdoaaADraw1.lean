/-
  What an operation looks at, and what it leaves alone.
-/
import Derived.Test.YtlmcjfnignbdoaaASound
namespace AbsYtlmcjfnignbdoaa
set_option linter.unusedVariables false
set_option linter.unusedSimpArgs false
set_option linter.unusedSectionVars false
open Go

section
variable {E : Env} {ι : Emb} {H H' K : AHeap} {w : World}

theorem pairs_congr {A B : List Value} {ps : Array (Nat × Operand)} (h : ∀ x ∈ ps.toList.map (·.2), aev A x = aev B x) : pairs A ps = pairs B ps :=
  List.map_congr_left fun p hp => by rw [h p.2 (List.mem_map.2 ⟨p, hp, rfl⟩)]
theorem amap_congr {A B : List Value} {xs : Array Operand} (h : ∀ x ∈ xs.toList, aev A x = aev B x) : xs.map (aev A) = xs.map (aev B) := by
  apply Array.ext'; simp only [Array.toList_map]; exact List.map_congr_left h
theorem lmap_congr {A B : List Value} {xs : List Operand} (h : ∀ x ∈ xs, aev A x = aev B x) : xs.map (aev A) = xs.map (aev B) := List.map_congr_left h
theorem omap_congr {A B : List Value} {x : Option Operand} (h : ∀ y, x = some y → aev A y = aev B y) : x.map (aev A) = x.map (aev B) := by
  cases x with
  | none => rfl
  | some y => simp [h y rfl]

/-- an operation looks at its own operands alone -/
theorem aop_congr {A B : List Value} {op : Op} (h : ∀ x ∈ op.operands.toList, aev A x = aev B x) : aop E A H op = aop E B H op := by
  cases op <;> simp only [aop] <;> simp only [Op.operands] at h
  case build t ps => rw [pairs_congr (by simpa using h)]
  case buildSlice t n ps => rw [pairs_congr (by simpa using h)]
  case makeFunc fn fs cs =>
    simp only [Array.toList_append, List.mem_append] at h
    cases fn <;> simp only [amap_congr (A := A) (B := B) (xs := fs) fun x hx => h x (.inl hx), amap_congr (A := A) (B := B) (xs := cs) fun x hx => h x (.inr hx)]
  case slice t x lo hi mx =>
    simp only [Array.toList_append, List.mem_append] at h
    rw [h x (.inl (.inl (.inl (by simp)))), omap_congr (x := lo) fun y e => h y (.inl (.inl (.inr (by simp [e])))), omap_congr (x := hi) fun y e => h y (.inl (.inr (by simp [e]))),
      omap_congr (x := mx) fun y e => h y (.inr (by simp [e]))]
  case makeMap t r => cases r <;> rfl
  case call c =>
    obtain ⟨callee, args, tys⟩ := c
    cases callee with
    | invoke r m => rfl
    | builtin b =>
      simp only [Call.operands] at h
      rw [lmap_congr (A := A) (B := B) (xs := args.toList) fun x hx => h x (by simpa using hx)]
    | value f =>
      simp only [Call.operands] at h
      simp only [lmap_congr (A := A) (B := B) (xs := args.toList) fun x hx => h x (by simp; exact .inr (by simpa using hx)), h f (by simp)]
  all_goals first
    | rfl
    | (simp at h; simp only [h])

/-- what an operation that allocates leaves -/
structure Loc1 (H H' K : AHeap) (K' : AHeap) : Prop where
  size : K'.size = H'.size
  grow : H.size ≤ H'.size
  old : ∀ b, b < H.size → K'.get b = K.get b
  old' : ∀ b, b < H.size → H'.get b = H.get b
  new : ∀ b, H.size ≤ b → b < H'.size → K'.get b = H'.get b

theorem Loc1.refl (hs : K.size = H.size) : Loc1 H H K K := ⟨hs, Nat.le_refl _, fun _ _ => rfl, fun _ _ => rfl, fun b h h' => by omega⟩
theorem Loc1.alloc (hs : K.size = H.size) (o : AObj) : Loc1 H (H.alloc o) K (K.alloc o) where
  size := by simp [AHeap.size_alloc, hs]
  grow := by simp [AHeap.size_alloc]
  old b hb := AHeap.get_alloc_ne _ _ (by omega)
  old' b hb := AHeap.get_alloc_ne _ _ (by omega)
  new b h h' := by
    rw [AHeap.size_alloc] at h'
    have : b = H.size := by omega
    subst this
    rw [AHeap.get_alloc_same]
    rw [← hs, AHeap.get_alloc_same]

def LocOk (E : Env) (A : List Value) (op : Op) (v : Value) (H H' K : AHeap) : Prop := ∃ K', aop E A K op = some (.val v K') ∧ Loc1 H H' K K'

theorem loc_vres {f : AHeap → Option Value} {v : Value} (hs : K.size = H.size) (he : f K = f H) (h : vres H (f H) = some (.val v H')) :
    ∃ K', vres K (f K) = some (.val v K') ∧ Loc1 H H' K K' := by
  obtain ⟨h1, rfl⟩ := vres_val h
  exact ⟨K, by rw [he, h1]; rfl, Loc1.refl hs⟩

theorem szOk_congr {b n : Nat} (h : oszeq (K.get b) (H.get b) = true) : szOk K b n = szOk H b n := by
  unfold szOk
  cases hk : K.get b <;> cases hh : H.get b <;> simp [hk, hh, oszeq] at h ⊢
  subst h; rfl
theorem oszeq_symm {a b : AObj} (h : oszeq a b = true) : oszeq b a = true := by
  cases a <;> cases b <;> simp [oszeq] at h ⊢; exact h.symm
theorem oszeq_trans {a b c : AObj} (h : oszeq a b = true) (h' : oszeq b c = true) : oszeq a c = true := by
  cases a <;> cases b <;> cases c <;> simp [oszeq] at h h' ⊢; exact h.trans h'
theorem oszeq_refl (a : AObj) : oszeq a a = true := by cases a <;> simp [oszeq]

theorem aslice_congr {t : Nat} {x : Value} {lo hi mx : Option Value} (hz : ∀ b ∈ blkOf x, ∀ n, szOk K b n = szOk H b n) : aslice E K t x lo hi mx = aslice E H t x lo hi mx := by
  unfold aslice
  split
  · rfl
  · rename_i i hi
    split <;> try rfl
    · rename_i e b o ex len c _
      simp only [hz b (by simp [blkOf])]
    · rename_i n e b o _
      simp only [hz b (by simp [blkOf])]

theorem aeq_congr : ∀ (d t : Nat) (x y : Value), (∀ b ∈ blkOf x, K.get b = H.get b) → (∀ b ∈ blkOf y, K.get b = H.get b) → aeq E K d t x y = aeq E H d t x y := by
  intro d t x y hx hy
  cases d with
  | zero => rfl
  | succ d =>
    unfold aeq
    split
    · rfl
    · split <;> try rfl
      rename_i e a o b p _
      simp only [hx a (by simp [blkOf]), hy b (by simp [blkOf])]

theorem alookup_congr {t : Nat} {m k : Value} {ok : Bool} (h : ∀ b ∈ blkOf m, K.get b = H.get b) : alookup E K t m k ok = alookup E H t m k ok := by
  unfold alookup
  split <;> try rfl
  split <;> try rfl
  split <;> try rfl
  rename_i r
  rw [h r (by simp [blkOf])]

theorem aload_congr {t : Nat} {x : Value} (h : ∀ b ∈ blkOf x, K.get b = H.get b) : aload E K t x = aload E H t x := by
  unfold aload
  split <;> try rfl
  rename_i b o
  rw [h b (by simp [blkOf])]

theorem takeCells_congr {b o n : Nat} (h : K.get b = H.get b) : takeCells K b o n = takeCells H b o n := by
  unfold takeCells; rw [h]

theorem abin_congr {op : BinOp} {t : Nat} {cs : Bool} {x y : Value} (h : isEq op = true → ∀ b ∈ blkOf x ++ blkOf y, K.get b = H.get b) : abin E K op t cs x y = abin E H op t cs x y := by
  have key : isEq op = true → aeq E K 64 t x y = aeq E H 64 t x y := fun hop =>
    aeq_congr _ _ _ _ (fun b hb => h hop b (by simp [hb])) (fun b hb => h hop b (by simp [hb]))
  unfold abin
  split <;> try rfl
  split <;> try rfl
  split
  · rw [key rfl]
  · rw [key rfl]
  · rfl

/-- an operation that changes nothing: what it comes to hangs on the blocks that it looks into -/
theorem aop_local {A : List Value} {op : Op} {v : Value} (hM : isM op = false) (h : aop E A H op = some (.val v H')) (hs : K.size = H.size)
    (hr : ∀ b ∈ reads A op, if looksWeak op then ∀ n, szOk K b n = szOk H b n else K.get b = H.get b) : LocOk E A op v H H' K := by
  unfold LocOk
  cases op <;> simp only [isM] at hM <;> try (cases hM; done)
  all_goals simp only [aop] at h ⊢
  all_goals try (cases h; done)
  case move x => injection h with h; injection h with h1 h2; subst h1; subst h2; exact ⟨K, rfl, Loc1.refl hs⟩
  case assign x => injection h with h; injection h with h1 h2; subst h1; subst h2; exact ⟨K, rfl, Loc1.refl hs⟩
  case pick c x y =>
    split at h
    · injection h with h; injection h with h1 h2; subst h1; subst h2; exact ⟨K, rfl, Loc1.refl hs⟩
    · cases h
  case alloc t =>
    split at h
    · injection h with h; injection h with h1 h2; subst h1; subst h2; exact ⟨_, by rw [hs], Loc1.alloc hs _⟩
    · cases h
  case box t x => injection h with h; injection h with h1 h2; subst h1; subst h2; exact ⟨_, by rw [hs], Loc1.alloc hs _⟩
  case build t ps => exact loc_vres (f := fun _ => abuild E t (pairs A ps)) hs rfl h
  case buildSlice t n ps =>
    have h1 := hres_val h
    unfold abuildSlice at h1 ⊢
    split at h1 <;> try (cases h1; done)
    split at h1 <;> try (cases h1; done)
    rename_i e _ _ _ _ ht j z hj hz
    split at h1 <;> try (cases h1; done)
    rename_i hc
    rw [if_neg hc]
    cases hl : lfill (fun k => some (k * j.size, j.size)) (reps z n) (pairs A ps) with
    | none => simp [hl] at h1
    | some cs =>
      simp only [hl, Option.map_some, Option.some.injEq, Prod.mk.injEq] at h1
      obtain ⟨h1, h2⟩ := h1
      subst h1; subst h2
      exact ⟨K.alloc (.cells cs true j.size), by simp [hres, hs], Loc1.alloc hs _⟩
  case load t x =>
    simp only [reads, looksWeak] at hr
    exact loc_vres (f := fun H => aload E H t (aev A x)) hs (aload_congr fun b hb => by simpa using hr b hb) h
  case nilCheck x =>
    split at h
    · injection h with h; injection h with h1 h2; subst h1; subst h2; exact ⟨K, rfl, Loc1.refl hs⟩
    · injection h with h; injection h with h1 h2; subst h1; subst h2; exact ⟨K, rfl, Loc1.refl hs⟩
    · cases h
  case binOp op t x y u =>
    refine loc_vres hs (f := fun H => abin E H op t (isConst x || isConst y) (aev A x) (aev A y)) (abin_congr fun hop b hb => ?_) h
    simpa [looksWeak] using hr b (by simpa only [reads, hop, if_true] using hb)
  case unOp op t x => exact loc_vres (f := fun _ => aun op (aev A x)) hs rfl h
  case convert s d x =>
    simp only [reads, looksWeak] at hr
    have h1 := hres_val h
    have hr' : ∀ b ∈ blkOf (aev A x), K.get b = H.get b := fun b hb => by simpa using hr b hb
    unfold aconvert at h1 ⊢
    split at h1 <;> try (cases h1; done)
    rename_i i j hi hj
    split at h1 <;> try (cases h1; done)
    · simp only [Option.some.injEq, Prod.mk.injEq] at h1
      obtain ⟨rfl, rfl⟩ := h1
      exact ⟨K, rfl, Loc1.refl hs⟩
    · simp only [Option.some.injEq, Prod.mk.injEq] at h1
      obtain ⟨rfl, rfl⟩ := h1
      exact ⟨K, rfl, Loc1.refl hs⟩
    · split at h1 <;> try (cases h1; done)
      simp only [Option.some.injEq, Prod.mk.injEq] at h1
      obtain ⟨rfl, rfl⟩ := h1
      exact ⟨_, by rw [hs]; rfl, Loc1.alloc hs _⟩
    · split at h1 <;> try (cases h1; done)
      simp only [Option.some.injEq, Prod.mk.injEq] at h1
      obtain ⟨rfl, rfl⟩ := h1
      exact ⟨K, rfl, Loc1.refl hs⟩
    · rename_i b o ex n c _ _ hx
      split at h1 <;> try (cases h1; done)
      rw [takeCells_congr (K := K) (H := H) (hr' b (by rw [hx]; simp [blkOf]))]
      split at h1 <;> try (cases h1; done)
      rename_i l hl
      cases hm : l.mapM byteOfV with
      | none => simp [hm] at h1
      | some bs =>
        simp only [hm, Option.map_some, Option.some.injEq, Prod.mk.injEq] at h1
        obtain ⟨rfl, rfl⟩ := h1
        exact ⟨K, by simp [hres, hm], Loc1.refl hs⟩
  case makeInterface t x =>
    split at h
    rotate_left
    · cases h
    · split at h
      · cases h
      · injection h with h; injection h with h1 h2; subst h1; subst h2; exact ⟨K, rfl, Loc1.refl hs⟩
  case makeFunc fn fs cs =>
    cases fn <;> simp only at h <;> try (cases h; done)
    injection h with h; injection h with h1 h2; subst h1; subst h2; exact ⟨K, rfl, Loc1.refl hs⟩
  case makeMap t r =>
    cases r <;> simp only at h <;> try (cases h; done)
    injection h with h; injection h with h1 h2; subst h1; subst h2; exact ⟨_, by rw [hs], Loc1.alloc hs _⟩
  case makeSlice t l c =>
    have h1 := hres_val h
    unfold amakeSlice at h1 ⊢
    split at h1 <;> try (cases h1; done)
    split at h1 <;> try (cases h1; done)
    split at h1 <;> try (cases h1; done)
    simp only [Option.some.injEq, Prod.mk.injEq] at h1
    obtain ⟨rfl, rfl⟩ := h1
    rename_i hc
    exact ⟨_, by rw [if_pos hc, hs]; rfl, Loc1.alloc hs _⟩
  case slice t x lo hi mx =>
    simp only [reads, looksWeak] at hr
    exact loc_vres (f := fun H => aslice E H t (aev A x) (lo.map (aev A)) (hi.map (aev A)) (mx.map (aev A))) hs (aslice_congr fun b hb => by simpa using hr b hb) h
  case fieldAddr s x f => exact loc_vres (f := fun _ => afieldAddr E s (aev A x) f) hs rfl h
  case field s x f => exact loc_vres (f := fun _ => afield E s (aev A x) f) hs rfl h
  case indexAddr t x i => exact loc_vres (f := fun _ => aindexAddr E t (aev A x) (aev A i)) hs rfl h
  case index t x i => exact loc_vres (f := fun _ => aindex E t (aev A x) (aev A i)) hs rfl h
  case lookup t m k ok =>
    simp only [reads, looksWeak] at hr
    exact loc_vres (f := fun H => alookup E H t (aev A m) (aev A k) ok) hs (alookup_congr fun b hb => by simpa using hr b hb) h
  case extract x i =>
    split at h
    rotate_left
    · cases h
    · rename_i vs _; exact loc_vres (f := fun _ => vs[i]?) hs rfl h
  case call c =>
    obtain ⟨callee, args, tys⟩ := c
    cases callee with
    | invoke r m => cases h
    | value f => cases hM
    | builtin b =>
      simp only at h ⊢
      cases b <;> simp only at hM <;> try (cases hM; done)
      case min =>
        have h1 := hres_val h
        simp only [abuiltin] at h1 ⊢
        cases hm : aminmax true (args.toList.map (aev A)) with
        | none => simp [hm] at h1
        | some u =>
          simp only [hm, Option.map_some, Option.some.injEq, Prod.mk.injEq] at h1
          obtain ⟨rfl, rfl⟩ := h1
          exact ⟨K, by simp [hres], Loc1.refl hs⟩
      case max =>
        have h1 := hres_val h
        simp only [abuiltin] at h1 ⊢
        cases hm : aminmax false (args.toList.map (aev A)) with
        | none => simp [hm] at h1
        | some u =>
          simp only [hm, Option.map_some, Option.some.injEq, Prod.mk.injEq] at h1
          obtain ⟨rfl, rfl⟩ := h1
          exact ⟨K, by simp [hres], Loc1.refl hs⟩
      case len =>
        have h1 := hres_val h
        have hr' : ∀ b ∈ (args.toList.map (aev A)).flatMap blkOf, K.get b = H.get b := fun b hb => by
          have := hr b (by simpa [reads, List.flatMap_map] using hb)
          simpa [looksWeak] using this
        generalize args.toList.map (aev A) = vs at h1 hr' ⊢
        unfold abuiltin at h1 ⊢
        split at h1 <;> try (cases h1; done)
        · split at h1 <;> try (cases h1; done)
          split at h1 <;> try (cases h1; done)
          simp only [Option.some.injEq, Prod.mk.injEq] at h1
          obtain ⟨rfl, rfl⟩ := h1
          exact ⟨K, rfl, Loc1.refl hs⟩
        · split at h1 <;> try (cases h1; done)
          split at h1 <;> try (cases h1; done)
          simp only [Option.some.injEq, Prod.mk.injEq] at h1
          obtain ⟨rfl, rfl⟩ := h1
          exact ⟨K, rfl, Loc1.refl hs⟩
        · split at h1 <;> try (cases h1; done)
          split at h1 <;> try (cases h1; done)
          simp only [Option.some.injEq, Prod.mk.injEq] at h1
          obtain ⟨rfl, rfl⟩ := h1
          exact ⟨K, rfl, Loc1.refl hs⟩
        · have hrr := hr' _ (by simp only [blkOf, List.flatMap_cons, List.flatMap_nil, List.append_nil]; exact List.mem_singleton_self _)
          rw [hrr]
          split at h1 <;> try (cases h1; done)
          split at h1 <;> try (cases h1; done)
          simp only [Option.some.injEq, Prod.mk.injEq] at h1
          obtain ⟨rfl, rfl⟩ := h1
          exact ⟨K, rfl, Loc1.refl hs⟩
        all_goals first | (rename_i heq _; cases heq; done) | (rename_i heq; cases heq; done) | skip

end
end AbsYtlmcjfnignbdoaa
