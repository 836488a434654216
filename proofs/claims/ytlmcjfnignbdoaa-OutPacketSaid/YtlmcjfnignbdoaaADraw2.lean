/-
  Operations, one at a time: the heap grows; only an operation's own operands need be known.
-/
import Derived.Test.YtlmcjfnignbdoaaADraw1
namespace AbsYtlmcjfnignbdoaa
set_option linter.unusedVariables false
set_option linter.unusedSimpArgs false
set_option linter.unusedSectionVars false
open Go

section
variable {E : Env} {ι : Emb} {H H' K : AHeap} {w : World}

theorem astoreAt_size {b o : Nat} {xs : List Value} (h : astoreAt H b o xs = some H') : H'.size = H.size := by
  unfold astoreAt at h
  split at h <;> try (cases h; done)
  split at h <;> try (cases h; done)
  injection h with h; subst h; rfl

theorem aappend_size {ts : List Nat} {args : List Value} {v : Value} (h : aappend E H ts args = some (v, H')) : H.size ≤ H'.size := by
  unfold aappend at h
  split at h <;> try (cases h; done)
  split at h <;> try (cases h; done)
  split at h <;> try (cases h; done)
  split at h <;> try (cases h; done)
  split at h <;> try (cases h; done)
  split at h <;> try (cases h; done)
  · split at h
    · injection h with h; injection h with _ h; subst h; exact Nat.le_refl _
    · split at h <;> try (cases h; done)
      injection h with h; injection h with _ h; subst h; exact Nat.le_succ _
  · split at h
    · split at h <;> try (cases h; done)
      split at h <;> try (cases h; done)
      split at h
      · injection h with h; injection h with _ h; subst h; exact Nat.le_refl _
      · simp only [Option.map_eq_some_iff, Prod.mk.injEq] at h
        obtain ⟨H1, h1, _, h2⟩ := h
        subst h2; rw [astoreAt_size h1]; exact Nat.le_refl _
    · split at h <;> try (cases h; done)
      split at h <;> try (cases h; done)
      · simp only [Option.map_eq_some_iff, Prod.mk.injEq] at h
        obtain ⟨H1, h1, _, h2⟩ := h
        subst h2; exact Nat.le_succ _
      · split at h <;> try (cases h; done)
        split at h <;> try (cases h; done)
        injection h with h; injection h with _ h; subst h; exact Nat.le_succ _

theorem abuiltin_size {b : Builtin} {ts : List Nat} {args : List Value} {v : Value} (h : abuiltin E H b ts args = some (v, H')) : H.size ≤ H'.size := by
  unfold abuiltin at h
  split at h <;> try (cases h; done)
  · split at h <;> try (cases h; done)
    split at h <;> try (cases h; done)
    injection h with h; injection h with _ h; subst h; exact Nat.le_refl _
  · split at h <;> try (cases h; done)
    split at h <;> try (cases h; done)
    injection h with h; injection h with _ h; subst h; exact Nat.le_refl _
  · split at h <;> try (cases h; done)
    split at h <;> try (cases h; done)
    injection h with h; injection h with _ h; subst h; exact Nat.le_refl _
  · split at h <;> try (cases h; done)
    split at h <;> try (cases h; done)
    injection h with h; injection h with _ h; subst h; exact Nat.le_refl _
  · exact aappend_size h
  · simp only [Option.map_eq_some_iff, Prod.mk.injEq] at h
    obtain ⟨_, _, _, h2⟩ := h; subst h2; exact Nat.le_refl _
  · simp only [Option.map_eq_some_iff, Prod.mk.injEq] at h
    obtain ⟨_, _, _, h2⟩ := h; subst h2; exact Nat.le_refl _
  · split at h <;> try (cases h; done)
    simp only [Option.map_eq_some_iff, Prod.mk.injEq] at h
    obtain ⟨H1, h1, _, h2⟩ := h; subst h2
    unfold adelete at h1
    split at h1 <;> try (cases h1; done)
    split at h1 <;> try (cases h1; done)
    · injection h1 with h1; subst h1; exact Nat.le_refl _
    · split at h1 <;> try (cases h1; done)
      split at h1 <;> try (cases h1; done)
      · injection h1 with h1; subst h1; exact Nat.le_refl _
      · injection h1 with h1; subst h1; exact Nat.le_refl _
  · split at h <;> try (cases h; done)
    split at h <;> try (cases h; done)
    split at h <;> try (cases h; done)
    split at h <;> try (cases h; done)
    · split at h <;> try (cases h; done)
      injection h with h; injection h with _ h; subst h; exact Nat.le_refl _
    · simp only [Option.map_eq_some_iff, Prod.mk.injEq] at h
      obtain ⟨H1, h1, _, h2⟩ := h
      subst h2; rw [astoreAt_size h1]; exact Nat.le_refl _

theorem aop_size {A : List Value} {op : Op} {v : Value} (h : aop E A H op = some (.val v H')) : H.size ≤ H'.size := by
  cases hM : isM op with
  | false =>
    obtain ⟨K', _, hl⟩ := aop_local (K := H) hM h rfl (fun b hb => by split <;> intros <;> rfl)
    exact hl.grow
  | true =>
    cases op <;> simp only [isM] at hM <;> try (cases hM; done)
    case store t x y =>
      obtain ⟨h1, rfl⟩ := ures_val h
      unfold astore at h1
      split at h1 <;> try (cases h1; done)
      split at h1 <;> try (cases h1; done)
      rw [astoreAt_size h1]; exact Nat.le_refl _
    case mapUpdate t m k x =>
      obtain ⟨h1, rfl⟩ := ures_val h
      unfold amapUpdate at h1
      split at h1 <;> try (cases h1; done)
      split at h1 <;> try (cases h1; done)
      split at h1 <;> try (cases h1; done)
      · injection h1 with h1; subst h1; exact Nat.le_refl _
      · injection h1 with h1; subst h1; exact Nat.le_refl _
    case call c =>
      obtain ⟨callee, args, tys⟩ := c
      cases callee with
      | invoke r m => cases h
      | value f => simp only [aop] at h; split at h <;> cases h
      | builtin b => exact abuiltin_size (hres_val h)
    all_goals cases h

theorem runOp_size {call : Call} (hc : CallOk E call) {all : Array Oper} {o : Oper} {A A' : List Value} (h : runOp E call all o A H = some (A', H')) : H.size ≤ H'.size := by
  unfold runOp at h
  split at h
  · split at h
    · cases h
    · rename_i hop
      injection h with h; injection h with _ h; subst h
      exact aop_size hop
    · split at h
      · rename_i hcall
        injection h with h; injection h with _ h; subst h
        exact hc.grow _ _ _ _ _ hcall
      · cases h
  · injection h with h; injection h with _ h; subst h; exact Nat.le_refl _

/-! ### an operation's own operands -/
def keeps (S : List Nat) (vs : List Value) : List Value := vs.zipIdx.map fun p => if S.contains p.2 then p.1 else undef
theorem keeps_length (S : List Nat) (vs : List Value) : (keeps S vs).length = vs.length := by simp [keeps]
theorem keeps_get (S : List Nat) (vs : List Value) (t : Nat) : (keeps S vs)[t]? = (vs[t]?).map fun v => if S.contains t then v else undef := by
  simp only [keeps, List.getElem?_map, List.getElem?_zipIdx]
  cases vs[t]? <;> simp
theorem keeps_getD {S : List Nat} {t : Nat} (ht : t ∈ S) (vs : List Value) : (keeps S vs).getD t undef = vs.getD t undef := by
  simp only [List.getD, keeps_get]
  cases vs[t]? <;> simp [ht]

def tmpsOf (xs : List Operand) : List Nat := xs.filterMap fun | .tmp t => some t | _ => none
theorem mem_tmpsOf {xs : List Operand} {t : Nat} (h : Operand.tmp t ∈ xs) : t ∈ tmpsOf xs := List.mem_filterMap.2 ⟨.tmp t, h, rfl⟩

theorem aev_keeps {S : List Nat} {A : List Value} {x : Operand} (h : ∀ t, x = .tmp t → t ∈ S) : aev (keeps S A) x = aev A x := by
  cases x <;> try rfl
  exact keeps_getD (h _ rfl) A
theorem eval_keeps {S : List Nat} {a : Act} {x : Operand} (h : ∀ t, x = .tmp t → t ∈ S) : ({ a with tmps := (keeps S a.tmps.toList).toArray } : Act).eval x = a.eval x := by
  cases x <;> try rfl
  rename_i t
  simp only [Act.eval, toList_getD]
  exact keeps_getD (h _ rfl) _

theorem aop_noSelect {A : List Value} {op : Op} {r : ARes} (h : aop E A H op = some r) (cs : Array SelectCase) (b : Bool) : op ≠ .select cs b := by
  rintro rfl; simp [aop] at h

/-- what an operation comes to, its own operands alone being known -/
theorem runOpV_sim (hE : TyOk E) {call : Call} (hc : CallOk E call) (h : Rel E ι H w) (hdm : Dm ι H) {A : List Value} {a : Act} (hl : A.length = a.tmps.size) {o : Oper} (hok : opOk E.ng o.op = true)
    (hx : ∀ t, Operand.tmp t ∈ o.op.operands → ∀ v v', A[t]? = some v → a.tmps[t]? = some v' → RV ι v v')
    {v : Value} (hr : aop E A H o.op = some (.val v H') ∨ ∃ f args, aop E A H o.op = some (.call f args) ∧ call f args H = some (v, H'))
    {K : Act → World → Prop} {Q : Exit → Act → World → Prop}
    (hK : ∀ ι' v' w', RV ι' v v' → Rel E ι' H' w' → Step ι H w ι' H' w' → K (a.put o.dst v') w') : o.wp E.P a w K Q := by
  have hsel : ∀ cs b, o.op ≠ .select cs b := by
    rcases hr with hr | ⟨f, args, hr, _⟩
    · exact aop_noSelect hr
    · exact aop_noSelect hr
  let S := tmpsOf o.op.operands.toList
  have hS : ∀ x ∈ o.op.operands.toList, ∀ t, x = .tmp t → t ∈ S := fun x hx t e => mem_tmpsOf (e ▸ hx)
  have hA : aop E A H o.op = aop E (keeps S A) H o.op := aop_congr fun x hx => (aev_keeps (hS x hx)).symm
  let b : Act := { a with tmps := (keeps S a.tmps.toList).toArray }
  have hb : execOp a.eval o = execOp b.eval o := execOp_congr o hsel fun x hx => (eval_keeps (hS x (by simpa using hx))).symm
  have hAb : RVs ι (keeps S A) b.tmps.toList := by
    refine RVs.of_get (by simp [b, keeps_length, hl]) fun i u u' hu hu' => ?_
    simp only [b, keeps_get, Option.map_eq_some_iff] at hu hu'
    obtain ⟨z, hz, rfl⟩ := hu
    obtain ⟨z', hz', rfl⟩ := hu'
    by_cases hi : i ∈ S
    · simp only [List.contains_iff_mem, hi, if_true]
      obtain ⟨x, hx1, hx2⟩ := List.mem_filterMap.1 hi
      have hxi : x = .tmp i := by cases x <;> simp at hx2; subst hx2; rfl
      subst hxi
      exact hx i (by simpa using hx1) _ _ hz (by simpa using hz')
    · simp only [List.contains_iff_mem, hi, if_false]
      exact RV.undef
  unfold Oper.wp
  rw [hb]
  rcases hr with hop | ⟨f, args, hop, hcall⟩
  · rw [hA] at hop
    obtain ⟨n, v', w', ι', hrun, hn, hv, hR, hS'⟩ := aop_val hE h hdm.free hAb hok hop
    rw [hrun]
    rcases hn with rfl | ⟨rfl, rfl⟩
    · exact hK ι' v' w' hv hR hS'
    · exact hK ι' _ w' hv hR hS'
  · rw [hA] at hop
    obtain ⟨args', hrun, hargs⟩ := aop_call h hAb hok hop
    rcases hc.sim _ _ _ _ _ hcall ι w args' h hdm hargs with ⟨hen, hcl⟩ | ⟨r', w', hen, v', ι', he, hv, hR, hS'⟩
    · rw [hrun, hen, Oper.upon_enter]
      refine hcl.mono ?_
      rintro e w' ⟨v', ι', rfl, hv, hR, hS'⟩
      exact hK ι' v' w' hv hR hS'
    · injection he with he; subst he
      rw [hrun, hen, Oper.upon_value]
      exact hK ι' r' w' hv hR hS'

/-! ### fewer names -/
def Emb.meet (ι ι0 : Emb) : Emb := fun b => if (ι0 b).isSome then ι b else none
theorem Emb.meet_some {ι ι0 : Emb} {b : Nat} {l : Loc} : (ι.meet ι0) b = some l ↔ (ι0 b).isSome = true ∧ ι b = some l := by
  unfold Emb.meet; split <;> simp_all
theorem Emb.meet_le (ι ι0 : Emb) : (ι.meet ι0).le ι := fun b l h => (Emb.meet_some.1 h).2
theorem Emb.meet_of {ι ι0 : Emb} {b : Nat} {l l0 : Loc} (h : ι b = some l) (h0 : ι0 b = some l0) : (ι.meet ι0) b = some l := Emb.meet_some.2 ⟨by simp [h0], h⟩

mutual
theorem RV.meet {ι ι0 : Emb} {v v' v0 : Value} (h : RV ι v v') (h0 : RV ι0 v v0) : RV (ι.meet ι0) v v' := by
  cases h with
  | bool b => exact .bool b
  | int k n => exact .int k n
  | string s => exact .string s
  | ptr0 => exact .ptr0
  | ptr b o l h => cases h0 with | ptr _ _ l0 hb => exact .ptr b o l (Emb.meet_of h hb)
  | slice0 => exact .slice0
  | sliceU b o n c c' l h hn hc ht => cases h0 with
    | sliceU _ _ _ _ _ l0 hb => exact .sliceU b o n c c' l (Emb.meet_of h hb) hn hc ht
    | sliceUZ _ _ _ l0 hb => exact .sliceU b o _ _ c' l (Emb.meet_of h hb) hn hc ht
  | sliceUZ b o a l h => cases h0 with
    | sliceU _ _ _ _ _ l0 hb => exact .sliceUZ b o a l (Emb.meet_of h hb)
    | sliceUZ _ _ _ l0 hb => exact .sliceUZ b o a l (Emb.meet_of h hb)
  | sliceX b o n c l h hn ht => cases h0 with
    | sliceX _ _ _ _ l0 hb => exact .sliceX b o n c l (Emb.meet_of h hb) hn ht
    | sliceXZ _ _ _ l0 hb => exact .sliceX b o _ _ l (Emb.meet_of h hb) hn ht
  | sliceXZ b o a l h => cases h0 with
    | sliceX _ _ _ _ l0 hb => exact .sliceXZ b o a l (Emb.meet_of h hb)
    | sliceXZ _ _ _ l0 hb => exact .sliceXZ b o a l (Emb.meet_of h hb)
  | map0 => exact .map0
  | map r l h => cases h0 with | map _ l0 hb => exact .map r l (Emb.meet_of h hb)
  | nilFunc => exact .nilFunc
  | func fn xs ys xs' ys' h h' => cases h0 with | func _ _ _ xs0 ys0 g g' => exact .func fn xs ys xs' ys' (RVs.meet h g) (RVs.meet h' g')
  | nilIface => exact .nilIface
  | iface t v v' h => cases h0 with | iface _ _ v0 g => exact .iface t v v' (RV.meet h g)
  | agg xs xs' h => cases h0 with | agg _ xs0 g => exact .agg xs xs' (RVs.meet h g)
  | tuple xs xs' h => cases h0 with | tuple _ xs0 g => exact .tuple xs xs' (RVs.meet h g)
theorem RVs.meet {ι ι0 : Emb} {vs vs' vs0 : List Value} (h : RVs ι vs vs') (h0 : RVs ι0 vs vs0) : RVs (ι.meet ι0) vs vs' := by
  cases h with
  | nil => exact .nil
  | cons v v' vs vs' h hs => cases h0 with | cons _ v0 _ vs0 g gs => exact .cons v v' vs vs' (RV.meet h g) (RVs.meet hs gs)
end
theorem REs.meet {ι ι0 : Emb} {es es' es0 : List MapEntry} (h : REs ι es es') (h0 : REs ι0 es es0) : REs (ι.meet ι0) es es' := by
  induction h generalizing es0 with
  | nil => exact .nil
  | cons e e' es es' hk hb hv _ ih => cases h0 with | cons _ _ _ _ _ _ g gs => exact .cons e e' es es' hk hb (hv.meet g) (ih gs)

/-- what a world holds of the blocks that another world has too -/
theorem Rel.meet {ι0 : Emb} {K H : AHeap} {w w0 : World} (h : Rel E ι K w) (h0 : Rel E ι0 H w0)
    (he : ∀ b l l0, ι b = some l → ι0 b = some l0 → H.get b = K.get b) : Rel E (ι.meet ι0) H w where
  dom b l hb := h.dom b l (Emb.meet_le _ _ _ _ hb)
  cells b l cs wr sz hb hg := by
    obtain ⟨h1, h2⟩ := Emb.meet_some.1 hb
    obtain ⟨l0, hl0⟩ := Option.isSome_iff_exists.1 h1
    obtain ⟨C, ty, fz, k1, k2, k3, k4, k5, k6, k7⟩ := h.cells b l cs wr sz h2 (by rw [← he b l l0 h2 hl0]; exact hg)
    obtain ⟨C0, _, _, _, _, _, _, m5, _, _⟩ := h0.cells b l0 cs wr sz hl0 hg
    refine ⟨C, ty, fz, k1, k2, k3, k4, ?_, k6, k7⟩
    intro i v hv
    obtain ⟨v', n1, n2⟩ := k5 i v hv
    obtain ⟨v0, _, n4⟩ := m5 i v hv
    exact ⟨v', n1, n2.meet n4⟩
  maps b l es clk hb hg := by
    obtain ⟨h1, h2⟩ := Emb.meet_some.1 hb
    obtain ⟨l0, hl0⟩ := Option.isSome_iff_exists.1 h1
    obtain ⟨es', k1, k2⟩ := h.maps b l es clk h2 (by rw [← he b l l0 h2 hl0]; exact hg)
    obtain ⟨es0, _, m2⟩ := h0.maps b l0 es clk hl0 hg
    exact ⟨es', k1, k2.meet m2⟩
  inj b b' l l' hb hb' hne hw hl := by
    obtain ⟨h1, h2⟩ := Emb.meet_some.1 hb
    obtain ⟨h3, h4⟩ := Emb.meet_some.1 hb'
    obtain ⟨l0, hl0⟩ := Option.isSome_iff_exists.1 h1
    obtain ⟨l1, hl1⟩ := Option.isSome_iff_exists.1 h3
    exact h.inj b b' l l' h2 h4 hne (by simpa only [wrt, he b l l0 h2 hl0] using hw) (by simpa only [live, he b' l' l1 h4 hl1] using hl)
  glob g hg := by
    obtain ⟨l, h1, h2, h3⟩ := h.glob g hg
    obtain ⟨l0, h4, _, _⟩ := h0.glob g hg
    exact ⟨l, Emb.meet_of h1 h4, h2, h3⟩

/-- only what names are laid out matters -/
theorem Rel.congr {K H : AHeap} (h : Rel E ι K w) (he : ∀ b l, ι b = some l → H.get b = K.get b) : Rel E ι H w where
  dom := h.dom
  cells b l cs wr sz hb hg := h.cells b l cs wr sz hb (by rw [← he b l hb]; exact hg)
  maps b l es clk hb hg := h.maps b l es clk hb (by rw [← he b l hb]; exact hg)
  inj b b' l l' hb hb' hne hw hl := h.inj b b' l l' hb hb' hne (by simpa only [wrt, he b l hb] using hw) (by simpa only [live, he b' l' hb'] using hl)
  glob := h.glob

theorem heap_of (f : Nat → AObj) (n z : Nat) : ∃ K : AHeap, K.size = z ∧ ∀ b, b < n → K.get b = f b := by
  have : ∀ m, ∃ K : AHeap, K.size = z ∧ ∀ b, b < m → K.get b = f b := by
    intro m
    induction m with
    | zero => exact ⟨⟨.lf, z⟩, rfl, fun b hb => by omega⟩
    | succ m ih =>
      obtain ⟨K, h1, h2⟩ := ih
      refine ⟨K.set m (f m), h1, fun b hb => ?_⟩
      by_cases hbm : m = b
      · subst hbm; exact AHeap.get_set_same _ _ _
      · rw [AHeap.get_set_ne _ _ hbm]; exact h2 b (by omega)
  exact this n

/-- one operation, from a part of what is laid out -/
theorem glue {ι0 ι ι1 ι' : Emb} {H0 K G G' K2 : AHeap} {w0 w w' : World} {taken : Nat → Prop}
    (hS : Step ι0 H0 w0 ι K w) (h : Rel E ι K w) (h1 : ι1.le ι) (hR : Rel E ι' G' w') (k : Step ι1 G w ι' G' w')
    (htk : ∀ b l, ι1 b = some l → taken b → G.get b = K.get b) (hnt : ∀ b l, ι1 b = some l → ¬ taken b → wrt G b = false)
    (hout : ∀ b l, ι' b = some l → ι1 b = none → ι b = none ∧ H0.size ≤ b ∧ b < K2.size) (hsz : K2.size = K.size) (hsz0 : H0.size ≤ G.size)
    (k1 : ∀ b l, ι' b = some l → (ι b = none ∨ ((ι1 b).isSome ∧ taken b)) → K2.get b = G'.get b)
    (k2 : ∀ b, b < K2.size → (ι' b = none ∨ ((ι b).isSome ∧ ¬ taken b)) → K2.get b = K.get b)
    (hdm : ∀ b l, ι b = some l → b < K.size) (hdm1 : Dm ι1 G) :
    let ι2 : Emb := fun b => if (ι' b).isSome then ι' b else ι b
    Rel E ι2 K2 w' ∧ Step ι0 H0 w0 ι2 K2 w' ∧ ι.le ι2 ∧ ι'.le ι2 ∧ (∀ b l, ι2 b = some l → ι b = none → ∃ l', ι' b = some l' ∧ ι1 b = none) := by
  intro ι2
  have e1 : ι'.le ι2 := fun b l hb => by simp [ι2, hb]
  have e2 : ι.le ι2 := fun b l hb => by
    simp only [ι2]
    cases hi : ι' b with
    | none => simpa using hb
    | some l' =>
      simp only [Option.isSome_some, if_true]
      cases hi1 : ι1 b with
      | none => rw [(hout b l' hi hi1).1] at hb; cases hb
      | some l1 =>
        have m1 := h1 _ _ hi1
        have m2 := k.ext _ _ hi1
        rw [hb] at m1; rw [hi] at m2
        rw [m2, m1]
  have cs : ∀ b l, ι2 b = some l → (ι' b = some l ∧ (ι b = none ∨ ((ι1 b).isSome ∧ taken b)) ∧ K2.get b = G'.get b) ∨ (ι b = some l ∧ ¬ ((ι1 b).isSome ∧ taken b) ∧ K2.get b = K.get b) := by
    intro b l hb
    cases hi : ι b with
    | none =>
      have : ι' b = some l := by
        simp only [ι2] at hb
        split at hb
        · exact hb
        · rw [hi] at hb; cases hb
      exact .inl ⟨this, .inl rfl, k1 b l this (.inl hi)⟩
    | some l0 =>
      have hl0 : l0 = l := by have := e2 _ _ hi; rw [hb] at this; exact (Option.some.inj this).symm
      subst hl0
      have hbs := hdm _ _ hi
      by_cases ht : (ι1 b).isSome ∧ taken b
      · obtain ⟨l1, hl1⟩ := Option.isSome_iff_exists.1 ht.1
        have m1 := h1 _ _ hl1
        rw [hi] at m1; injection m1 with m1; subst m1
        have m2 := k.ext _ _ hl1
        exact .inl ⟨m2, .inr ht, k1 b _ m2 (.inr ht)⟩
      · refine .inr ⟨rfl, ht, ?_⟩
        cases hi' : ι' b with
        | none => exact k2 b (by omega) (.inl hi')
        | some l' =>
          cases hi1 : ι1 b with
          | none => rw [(hout b l' hi' hi1).1] at hi; cases hi
          | some l1 => exact k2 b (by omega) (.inr ⟨by simp [hi], fun htk => ht ⟨by simp [hi1], htk⟩⟩)
  have wG : ∀ b l, ι1 b = some l → wrt G b = true → wrt K b = true ∧ taken b := fun b l hb hw => by
    by_cases ht : taken b
    · exact ⟨by simpa only [wrt, htk b l hb ht] using hw, ht⟩
    · rw [hnt b l hb ht] at hw; cases hw
  -- a live block that is left as it was lies elsewhere
  have still : ∀ b l, ι b = some l → ¬ ((ι1 b).isSome ∧ taken b) → live K b = true → w'.heap[l.blk]? = w.heap[l.blk]? := by
    intro b l hb hnot hl
    refine k.frame _ (h.dom b l hb) fun b1 l1 hb1 he => ?_
    cases hw : wrt G b1 with
    | false => rfl
    | true =>
      obtain ⟨hw1, ht1⟩ := wG b1 l1 hb1 hw
      have hne : b1 ≠ b := by rintro rfl; exact hnot ⟨by simp [hb1], ht1⟩
      exact absurd he (h.inj b1 b l1 l (h1 _ _ hb1) hb hne hw1 hl)
  have hRel : Rel E ι2 K2 w' := by
    refine ⟨?_, ?_, ?_, ?_, ?_⟩
    · intro b l hb
      rcases cs b l hb with ⟨h2, _, _⟩ | ⟨h2, _, _⟩
      · exact hR.dom b l h2
      · exact Nat.lt_of_lt_of_le (h.dom b l h2) k.size
    · intro b l xs wr sz hb hg
      rcases cs b l hb with ⟨h2, _, h3⟩ | ⟨h2, h4, h3⟩
      · obtain ⟨C, ty, fz, m1, m2, m3, m4, m5, m6, m7⟩ := hR.cells b l xs wr sz h2 (by rw [← h3]; exact hg)
        exact ⟨C, ty, fz, m1, m2, m3, m4, fun i v hv => by obtain ⟨v', n1, n2⟩ := m5 i v hv; exact ⟨v', n1, n2.mono e1⟩, m6, m7⟩
      · have hgk : K.get b = .cells xs wr sz := by rw [← h3]; exact hg
        obtain ⟨C, ty, fz, m1, m2, m3, m4, m5, m6, m7⟩ := h.cells b l xs wr sz h2 hgk
        exact ⟨C, ty, fz, by rw [still b l h2 h4 (by simp [live, hgk])]; exact m1, m2, m3, m4, fun i v hv => by obtain ⟨v', n1, n2⟩ := m5 i v hv; exact ⟨v', n1, n2.mono e2⟩, m6, m7⟩
    · intro b l es clk hb hg
      rcases cs b l hb with ⟨h2, _, h3⟩ | ⟨h2, h4, h3⟩
      · obtain ⟨es', m1, m2⟩ := hR.maps b l es clk h2 (by rw [← h3]; exact hg)
        exact ⟨es', m1, m2.mono e1⟩
      · have hgk : K.get b = .map es clk := by rw [← h3]; exact hg
        obtain ⟨es', m1, m2⟩ := h.maps b l es clk h2 hgk
        exact ⟨es', by rw [still b l h2 h4 (by simp [live, hgk])]; exact m1, m2.mono e2⟩
    · intro b b' l l' hb hb' hne hw hl
      rcases cs b l hb with ⟨h2, h4, h3⟩ | ⟨h2, h4, h3⟩ <;> rcases cs b' l' hb' with ⟨h2', h4', h3'⟩ | ⟨h2', h4', h3'⟩
      · exact hR.inj b b' l l' h2 h2' hne (by simpa only [wrt, h3] using hw) (by simpa only [live, h3'] using hl)
      · have hl' : live K b' = true := by simpa only [live, h3'] using hl
        rcases k.own b l h2 (by simpa only [wrt, h3] using hw) with g1 | ⟨b1, l1, g1, g2, g3⟩
        · have := h.dom b' l' h2'; omega
        · obtain ⟨hw1, ht1⟩ := wG b1 l1 g1 g3
          have hne1 : b1 ≠ b' := by rintro rfl; exact h4' ⟨by simp [g1], ht1⟩
          have := h.inj b1 b' l1 l' (h1 _ _ g1) h2' hne1 hw1 hl'
          rw [g2] at this; exact this
      · have hw' : wrt K b = true := by simpa only [wrt, h3] using hw
        cases hi : ι b' with
        | some l0 =>
          have hl0 : l0 = l' := by have := e2 _ _ hi; rw [hb'] at this; exact (Option.some.inj this).symm
          subst hl0
          rcases h4' with h4' | ⟨h5, h6⟩
          · rw [h4'] at hi; cases hi
          · obtain ⟨l1, hl1⟩ := Option.isSome_iff_exists.1 h5
            have hg := htk b' l1 hl1 h6
            have hlv : live G' b' = true := by simpa only [live, h3'] using hl
            have := k.liv b' (hdm1 b' l1 hl1) hlv
            exact h.inj b b' l l0 h2 hi hne hw' (by simpa only [live, hg] using this)
        | none =>
          have hi1 : ι1 b' = none := by
            cases hx : ι1 b' with
            | none => rfl
            | some l1 => rw [h1 _ _ hx] at hi; cases hi
          rcases k.place b' l' h2' hi1 with g1 | ⟨b1, l1, g1, g2, g3⟩
          · have := h.dom b l h2; omega
          · obtain ⟨hw1, ht1⟩ := wG b1 l1 g1 g3
            have hne1 : b ≠ b1 := by rintro rfl; exact h4 ⟨by simp [g1], ht1⟩
            have := h.inj b b1 l l1 h2 (h1 _ _ g1) hne1 hw' (by revert hw1; simp only [wrt, live]; cases K.get b1 <;> simp)
            rw [g2] at this; exact this
      · exact h.inj b b' l l' h2 h2' hne (by simpa only [wrt, h3] using hw) (by simpa only [live, h3'] using hl)
    · intro g hg
      obtain ⟨l, m1, m2, m3⟩ := h.glob g hg
      exact ⟨l, e2 _ _ m1, m2, m3⟩
  refine ⟨hRel, ?_, e2, e1, ?_⟩
  · refine ⟨hS.ext.trans e2, ?_, by rw [hsz]; exact hS.hsz, ?_, ?_, ?_, k.os.trans hS.os, k.tape.trans hS.tape, k.output.trans hS.output, Nat.le_trans hS.size k.size, ?_, ?_⟩
    · intro b l hb hn
      cases hi : ι b with
      | some l0 => have := hS.new b l0 hi hn; rw [hsz]; exact this
      | none =>
        have : ι' b = some l := by
          simp only [ι2] at hb
          split at hb
          · exact hb
          · rw [hi] at hb; cases hb
        have hi1 : ι1 b = none := by
          cases hx : ι1 b with
          | none => rfl
          | some l1 => rw [h1 _ _ hx] at hi; cases hi
        exact (hout b l this hi1).2
    · intro b l hb hw
      rcases cs b l hb with ⟨h2, _, h3⟩ | ⟨h2, _, h3⟩
      · rcases k.own b l h2 (by simpa only [wrt, h3] using hw) with g1 | ⟨b1, l1, g1, g2, g3⟩
        · exact .inl (Nat.le_trans hS.size g1)
        · rcases hS.own b1 l1 (h1 _ _ g1) (wG b1 l1 g1 g3).1 with g4 | ⟨b0, l0, g4, g5, g6⟩
          · exact .inl (g2 ▸ g4)
          · exact .inr ⟨b0, l0, g4, g5.trans g2, g6⟩
      · exact hS.own b l h2 (by simpa only [wrt, h3] using hw)
    · intro b l hb hn
      cases hi : ι b with
      | some l0 =>
        have hl0 : l0 = l := by have := e2 _ _ hi; rw [hb] at this; exact (Option.some.inj this).symm
        subst hl0
        exact hS.place b l0 hi hn
      | none =>
        have h2 : ι' b = some l := by
          simp only [ι2] at hb
          split at hb
          · exact hb
          · rw [hi] at hb; cases hb
        have hi1 : ι1 b = none := by
          cases hx : ι1 b with
          | none => rfl
          | some l1 => rw [h1 _ _ hx] at hi; cases hi
        rcases k.place b l h2 hi1 with g1 | ⟨b1, l1, g1, g2, g3⟩
        · exact .inl (Nat.le_trans hS.size g1)
        · rcases hS.own b1 l1 (h1 _ _ g1) (wG b1 l1 g1 g3).1 with g4 | ⟨b0, l0, g4, g5, g6⟩
          · exact .inl (g2 ▸ g4)
          · exact .inr ⟨b0, l0, g4, g5.trans g2, g6⟩
    · intro b hb hl
      have hbk : b < K2.size := by rw [hsz]; exact Nat.lt_of_lt_of_le hb hS.hsz
      cases hi : ι' b with
      | none => exact hS.liv b hb (by simpa only [live, k2 b hbk (.inl hi)] using hl)
      | some l' =>
        cases hi1 : ι1 b with
        | none => have := (hout b l' hi hi1).2.1; omega
        | some l1 =>
          by_cases ht : taken b
          · have hk := k1 b l' hi (.inr ⟨by simp [hi1], ht⟩)
            have := k.liv b (by omega) (by simpa only [live, hk] using hl)
            exact hS.liv b hb (by simpa only [live, htk b l1 hi1 ht] using this)
          · exact hS.liv b hb (by simpa only [live, k2 b hbk (.inr ⟨by simp [h1 _ _ hi1], ht⟩)] using hl)
    · intro B hB hno
      rw [k.frame B (Nat.lt_of_lt_of_le hB hS.size) ?_, hS.frame B hB hno]
      intro b1 l1 g1 g2
      cases hw : wrt G b1 with
      | false => rfl
      | true =>
        rcases hS.own b1 l1 (h1 _ _ g1) (wG b1 l1 g1 hw).1 with g4 | ⟨b0, l0, g4, g5, g6⟩
        · omega
        · rw [hno b0 l0 g4 (g5.trans g2)] at g6; cases g6
    · intro b hb hn
      have hbk : b < K2.size := by rw [hsz]; exact Nat.lt_of_lt_of_le hb hS.hsz
      have hi : ι b = none := by
        cases hx : ι b with
        | none => rfl
        | some l => have := (hS.new b l hx hn).1; omega
      have hi' : ι' b = none := by
        cases hx : ι' b with
        | none => rfl
        | some l' =>
          cases hx1 : ι1 b with
          | some l1 => rw [h1 _ _ hx1] at hi; cases hi
          | none => have := (hout b l' hx hx1).2.1; omega
      rw [k2 b hbk (.inl hi'), hS.away b hb hn]
  · intro b l hb hn
    have h2 : ι' b = some l := by
      simp only [ι2] at hb
      split at hb
      · exact hb
      · rw [hn] at hb; cases hb
    refine ⟨l, h2, ?_⟩
    cases hx : ι1 b with
    | none => rfl
    | some l1 => rw [h1 _ _ hx] at hn; cases hn

end
end AbsYtlmcjfnignbdoaa
