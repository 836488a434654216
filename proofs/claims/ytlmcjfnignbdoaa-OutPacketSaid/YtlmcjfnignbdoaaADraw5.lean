/-
  A region that draws its order: one operation after another, and the whole.
-/
import Derived.Test.YtlmcjfnignbdoaaADraw4
namespace AbsYtlmcjfnignbdoaa
set_option linter.unusedVariables false
set_option linter.unusedSimpArgs false
set_option linter.unusedSectionVars false
open Go

theorem blkOf_dom {ι : Emb} {v v' : Value} (h : RV ι v v') {b : Nat} (hb : b ∈ blkOf v) : ∃ l, ι b = some l := by
  cases h <;> simp [blkOf] at hb <;> subst hb <;> exact ⟨_, by assumption⟩
theorem blkOf_closed {v : Value} (h : closedV v = true) : blkOf v = [] := by
  unfold closedV at h
  split at h <;> first | rfl | cases h
theorem blkOf_undef : blkOf undef = [] := rfl

/-- the blocks that an operation looks into are named by its operands -/
theorem reads_operand {A : List Value} {op : Op} {b : Nat} (h : b ∈ reads A op) : ∃ x ∈ op.operands, b ∈ blkOf (aev A x) := by
  cases op <;> simp only [reads] at h <;> try (simp at h; done)
  case load t x => exact ⟨x, by simp [Op.operands], h⟩
  case lookup t m k ok => exact ⟨m, by simp [Op.operands], h⟩
  case convert s d x => exact ⟨x, by simp [Op.operands], h⟩
  case slice t x lo hi mx => exact ⟨x, by simp [Op.operands], h⟩
  case binOp op t x y u =>
    split at h
    · rcases List.mem_append.1 h with h | h
      · exact ⟨x, by simp [Op.operands], h⟩
      · exact ⟨y, by simp [Op.operands], h⟩
    · simp at h
  case call c =>
    obtain ⟨callee, args, tys⟩ := c
    simp only at h
    split at h
    · obtain ⟨x, h1, h2⟩ := List.mem_flatMap.1 h
      exact ⟨x, by simp [Op.operands, Call.operands]; simpa using h1, h2⟩
    · simp at h

theorem mem_looks {ops : Array Oper} {o : Oper} {t : Nat} (h : Operand.tmp t ∈ o.op.operands) : t ∈ o.looksAt ops :=
  List.mem_append_left _ (List.mem_filterMap.2 ⟨.tmp t, by simpa using h, rfl⟩)

section
variable {E : Env} {call : Call} {ops : Array Oper} {AA : Nat → List Value} {HH : Nat → AHeap} {ι0 : Emb} {w0 : World} (c : Ctx E call ops AA HH ι0 w0)
variable {ι : Emb} {w : World} {a0 a : Act} {K : AHeap} {p : Nat} {listed : Array Bool} (I : Inv E ops AA HH ι0 w0 a0 ι K p listed a w)
variable {j : Nat} {o : Oper} (N : Next ops listed j o)

include c I N in
/-- a block of its operands is laid out, here and in the text's order -/
theorem reads_dom {ιj : Emb} {wj : World} {τj : List Value} (hRj : Rel E ιj (HH j) wj) (hAj : RVs ιj (AA j) τj) {b : Nat} (hb : b ∈ reads (AA j) o.op) : (∃ l, ι b = some l) ∧ ∃ l, ιj b = some l := by
  obtain ⟨x, hx, hbx⟩ := reads_operand hb
  have hop := opOk_mem (c.opok j o N.at') x (by simpa using hx)
  cases x with
  | const v => rw [aev, blkOf_closed (by simpa [opndOk] using hop)] at hbx; cases hbx
  | func f => simp [aev, blkOf] at hbx
  | global g =>
    have hg : g < E.ng := by simpa [opndOk, Nat.blt_eq] using hop
    simp [aev, blkOf] at hbx; subst hbx
    obtain ⟨l, h1, _⟩ := I.rel.glob b hg
    obtain ⟨l', h2, _⟩ := hRj.glob b hg
    exact ⟨⟨l, h1⟩, ⟨l', h2⟩⟩
  | tmp t =>
    simp only [aev] at hbx
    cases hv : a.tmps[t]? with
    | none =>
      have : (AA j)[t]? = none := by
        rw [List.getElem?_eq_none_iff, c.length (Nat.le_of_lt (get_lt N.at')), ← I.len]
        simpa using hv
      simp [List.getD, this, blkOf, undef] at hbx
    | some v' => exact ⟨blkOf_dom (looked c I N (mem_looks hx) hv) hbx, blkOf_dom (hAj.getD t RV.undef) hbx⟩

include c I N in
theorem looked_meet {ιj : Emb} {τj : List Value} (hAj : RVs ιj (AA j) τj) (t : Nat) (ht : Operand.tmp t ∈ o.op.operands) (v v' : Value) (hv : (AA j)[t]? = some v) (hv' : a.tmps[t]? = some v') : RV (ι.meet ιj) v v' := by
  have h1 := looked c I N (mem_looks ht) hv'
  have : (AA j).getD t undef = v := by simp [List.getD, hv]
  rw [this] at h1
  obtain ⟨v0, _, h2⟩ := hAj.get t v hv
  exact h1.meet h2

include c I N in
theorem none_at {b : Nat} (h1 : (HH j).size ≤ b) (h2 : b < (HH (j + 1)).size) : ι b = none := by
  cases hx : ι b with
  | none => rfl
  | some l =>
    have hjn := get_lt N.at'
    rcases I.dom b l hx with h | ⟨i, h3, h4, h5, h6⟩
    · have := c.size_le (i := 0) (j := j) (by omega) (by omega); omega
    · have := c.birth h3 hjn h5 h6 h1 h2
      subst this; exact absurd h4 N.not

include c I in
theorem dom_lt {b : Nat} {l : Loc} (hb : ι b = some l) : b < K.size := by
  rw [I.ksz]
  rcases I.dom b l hb with h | ⟨i, h3, h4, h5, h6⟩
  · exact Nat.lt_of_lt_of_le h (c.size_le (by omega) (Nat.le_refl _))
  · exact Nat.lt_of_lt_of_le h6 (c.size_le (by omega) (Nat.le_refl _))

include c I N in
/-- what a block holds, and what it holds in the text's order at the operation -/
theorem same_at {weak : Bool} {b : Nat} {l : Loc} (hb : ι b = some l) (hbj : b < (HH j).size)
    (hfl : ∀ k ok, ops[k]? = some ok → isM ok.op = true → (p ≤ k ∧ k < j ∨ j < k ∧ k < p) → same weak ((HH k).get b) ((HH (k + 1)).get b))
    (hself : isM o.op = true → p ≤ j) : same weak ((HH j).get b) (K.get b) := by
  have hjn := get_lt N.at'
  rcases Nat.lt_or_ge j p with h | h
  · rw [I.c1 b l hb (Nat.lt_of_lt_of_le hbj (c.size_le (Nat.le_of_lt h) I.le))]
    refine c.same_range (Nat.le_of_lt h) I.le hbj fun k ok hk h1 h2 h3 => ?_
    have hne : j ≠ k := by
      rintro rfl
      rw [N.at'] at hk; injection hk with hk; subst hk
      have := hself h3; omega
    exact hfl k ok hk h3 (.inr ⟨by omega, h2⟩)
  · rcases Nat.lt_or_ge b (HH p).size with h4 | h4
    · rw [I.c1 b l hb h4]
      exact (c.same_range h (Nat.le_of_lt hjn) h4 fun k ok hk h1 h2 h3 => hfl k ok hk h3 (.inl ⟨h1, h2⟩)).symm
    · rcases I.dom b l hb with h5 | ⟨i, h5, h6, h7, h8⟩
      · have := c.size_le (i := 0) (j := p) (by omega) I.le; omega
      · have hpi : p ≤ i := by
          rcases Nat.lt_or_ge i p with h9 | h9
          · have := c.size_le (i := i + 1) (j := p) h9 I.le; omega
          · exact h9
        have hij : i + 1 ≤ j := by
          rcases Nat.lt_or_ge i j with h9 | h9
          · exact h9
          · have := c.size_le (i := j) (j := i) h9 (by omega); omega
        rw [I.c2 i b l hpi h5 h6 hb h7 h8]
        exact (c.same_range hij (Nat.le_of_lt hjn) h8 fun k ok hk h1 h2 h3 => hfl k ok hk h3 (.inl ⟨by omega, h2⟩)).symm

include c I N in
theorem not_moved_yet (hM : isM o.op = true) : p ≤ j ∧ ∀ i oi, ops[i]? = some oi → p ≤ i → i < j → isM oi.op = false := by
  have hpj : p ≤ j := by
    rcases Nat.lt_or_ge j p with h | h
    · exact absurd ((I.prog j o N.at' hM).2 h) N.not
    · exact h
  refine ⟨hpj, fun i oi hi h1 h2 => ?_⟩
  cases hMi : isM oi.op with
  | false => rfl
  | true =>
    have hin : isIn listed i := by
      cases hb : bef (befs ops.toList []) i j with
      | true => exact before_done c I N hi hb
      | false => exact absurd ⟨hMi, hM⟩ (drawOk_pair c.ok hi N.at' h2 hb).2
    have := (I.prog i oi hi hMi).1 hin; omega

def weaken (weak : Bool) (o : AObj) : AObj := if weak then (match o with | .cells _ _ sz => .cells [] false sz | _ => .dead) else o
theorem weaken_faint (weak : Bool) {o p : AObj} (h : same weak o p) : faint (weaken weak p) o := by
  cases weak with
  | false => simp [same] at h; subst h; exact .inl rfl
  | true =>
    simp [same] at h
    cases o <;> cases p <;> simp [oszeq] at h
    · exact .inr (.inl rfl)
    · subst h; exact .inr (.inr ⟨_, _, _, rfl, rfl⟩)
    · exact .inr (.inl rfl)
theorem weaken_faint' (weak : Bool) (o : AObj) : faint (weaken weak o) o := weaken_faint weak (same.rfl weak o)

include c I N in
/-- one operation that may come next -/
theorem draw_op {Kont : Act → World → Prop} {Q : Exit → Act → World → Prop}
    (hK : ∀ ι2 K2 p2 a2 w2, Inv E ops AA HH ι0 w0 a0 ι2 K2 p2 (listed.setIfInBounds j true) a2 w2 → Kont a2 w2) : wpOp E.P ops Q j Kont a w := by
  have hj : j < listed.size := by rw [I.size]; exact get_lt N.at'
  have hjn := get_lt N.at'
  unfold wpOp
  rw [N.at']
  simp only
  have hws := wanted_same c I N
  have hcame := came (c.run j o N.at')
  -- nothing is done
  have hnot : Region.wanted o (ayield ops (AA j)) = false → AA (j + 1) = aput (AA j) o.dst undef → HH (j + 1) = HH j → Kont (a.put o.dst undef) w := fun hw hA hH => by
    cases hM : isM o.op with
    | false => exact hK _ _ _ _ _ (inv_still c I N hM (Emb.le.refl ι) I.rel I.step rfl (fun _ _ _ => rfl) (fun b l h1 h2 => by rw [h1] at h2; cases h2) hA RV.undef)
    | true =>
      obtain ⟨hpj, hgap⟩ := not_moved_yet c I N hM
      obtain ⟨p', hI⟩ := inv_moved c I N hM (Emb.le.refl ι) I.rel I.step rfl
        (fun b l hb hlt => by
          rw [hH] at hlt ⊢
          have := same_at c I N (weak := false) hb hlt (fun k ok hk hMk h => by
            rcases h with ⟨h1, h2⟩ | ⟨h1, h2⟩
            · rw [hgap k ok hk h1 h2] at hMk; cases hMk
            · omega) (fun _ => hpj)
          exact (by simpa [same] using this : (HH j).get b = K.get b).symm)
        (fun b l hb _ => ⟨⟨l, hb⟩, rfl⟩) (fun b _ _ => by rw [hH]) (fun b l h1 h2 => by rw [h1] at h2; cases h2) hA RV.undef
      exact hK _ _ _ _ _ hI
  obtain ⟨ιj, wj, τj, hRj, hDj, hAj, _⟩ := c.chain j (Nat.le_of_lt hjn)
  have hlen : (AA j).length = a.tmps.size := by rw [c.length (Nat.le_of_lt hjn), I.len]
  have hle1 : (ι.meet ιj).le ι := Emb.meet_le _ _
  have hDm1 : Dm (ι.meet ιj) (HH j) := fun b l hb => by
    obtain ⟨l0, hl0⟩ := Option.isSome_iff_exists.1 (Emb.meet_some.1 hb).1
    exact hDj b l0 hl0
  -- what an operation that changes something does
  have hmoved : ∀ v, isM o.op = true → Region.wanted o (ayield ops (AA j)) = true → (aop E (AA j) (HH j) o.op = some (.val v (HH (j + 1))) ∨ ∃ f args, aop E (AA j) (HH j) o.op = some (.call f args) ∧ call f args (HH j) = some (v, HH (j + 1))) →
      AA (j + 1) = aput (AA j) o.dst v → o.wp E.P a w Kont Q := fun v hM hw hr hA => by
    obtain ⟨hpj, hgap⟩ := not_moved_yet c I N hM
    have hat : ∀ b l, ι b = some l → b < (HH j).size → (HH j).get b = K.get b := fun b l hb hlt => by
      have := same_at c I N (weak := false) hb hlt (fun k ok hk hMk h => by
        rcases h with ⟨h1, h2⟩ | ⟨h1, h2⟩
        · rw [hgap k ok hk h1 h2] at hMk; cases hMk
        · omega) (fun _ => hpj)
      simpa [same] using this
    have hR1 : Rel E (ι.meet ιj) (HH j) w := Rel.meet I.rel hRj fun b l l0 hb hb0 => hat b l hb (hDj b l0 hb0)
    refine runOpV_sim c.hE c.hc hR1 hDm1 hlen (c.opok j o N.at') (fun t ht v v' hv hv' => looked_meet c I N hAj t ht v v' hv hv') hr fun ι' v' w' hv hR' hS' => ?_
    obtain ⟨K2, hz, hK2⟩ := heap_of (fun b => if (ι' b).isSome then (HH (j + 1)).get b else K.get b) K.size K.size
    have hDm' : Dm ι' (HH (j + 1)) := hDm1.step hS'
    have hN : (HH (j + 1)).size ≤ K.size := by rw [I.ksz]; exact c.size_le (by omega) (Nat.le_refl _)
    have hout : ∀ b l, ι' b = some l → (ι.meet ιj) b = none → ι b = none ∧ (HH 0).size ≤ b ∧ b < K2.size := fun b l hb hn => by
      have h1 := hS'.new b l hb hn
      have := c.size_le (i := 0) (j := j) (by omega) (by omega)
      exact ⟨none_at c I N h1.1 h1.2, by omega, by omega⟩
    obtain ⟨g1, g2, g3, g4, g5⟩ := glue (taken := fun _ => True) I.step I.rel hle1 hR' hS' (fun b l hb _ => hat b l (hle1 _ _ hb) (hDm1 b l hb)) (fun b l _ h => absurd trivial h) hout hz
      (c.size_le (by omega) (by omega)) (fun b l hb _ => by rw [hK2 b (by have := hDm' b l hb; omega)]; simp [hb])
      (fun b hb h => by
        rcases h with h | ⟨_, h⟩
        · rw [hK2 b (by omega)]; simp [h]
        · exact absurd trivial h) (fun b l hb => dom_lt c I hb) hDm1
    obtain ⟨p', hI⟩ := inv_moved c I N hM (v := v) (v' := v') g3 g1 g2 hz
      (fun b l hb hlt => by
        cases hx : ι' b with
        | some l' => rw [hK2 b (by omega)]; simp [hx]
        | none =>
          have hb' : ι b = some l := by simpa [hx] using hb
          rw [hK2 b (by omega)]
          simp only [hx, Option.isSome_none, Bool.false_eq_true, if_false]
          have hlt' : b < (HH j).size := by
            rcases Nat.lt_or_ge b (HH j).size with h | h
            · exact h
            · have := none_at c I N h hlt; rw [hb'] at this; cases this
          have hn1 : (ι.meet ιj) b = none := by
            cases hy : (ι.meet ιj) b with
            | none => rfl
            | some l1 => rw [hS'.ext _ _ hy] at hx; cases hx
          rw [hS'.away b hlt' hn1, hat b l hb' hlt'])
      (fun b l hb hge => by
        have hx : ι' b = none := by
          cases hy : ι' b with
          | none => rfl
          | some l1 => have := hDm' b l1 hy; omega
        have hb' : ι b = some l := by simpa [hx] using hb
        refine ⟨⟨l, hb'⟩, ?_⟩
        rw [hK2 b (dom_lt c I hb')]; simp [hx])
      (fun b hlt hn => hS'.away b hlt (by
        cases hy : (ι.meet ιj) b with
        | none => rfl
        | some l1 => rw [hle1 _ _ hy] at hn; cases hn))
      (fun b l hb hn => by
        obtain ⟨l', h1, h2⟩ := g5 b l hb hn
        exact hS'.new b l' h1 h2) hA (hv.mono g4)
    exact hK _ _ _ _ _ hI
  -- what one that changes nothing does
  have hstill : ∀ v, isM o.op = false → Region.wanted o (ayield ops (AA j)) = true → aop E (AA j) (HH j) o.op = some (.val v (HH (j + 1))) →
      AA (j + 1) = aput (AA j) o.dst v → o.wp E.P a w Kont Q := fun v hM hw hop hA => by
    let weak := looksWeak o.op
    have hrd : ∀ b ∈ reads (AA j) o.op, (∃ l, ι b = some l) ∧ b < (HH j).size ∧ same weak ((HH j).get b) (K.get b) := fun b hb => by
      obtain ⟨⟨l, h1⟩, ⟨l', h2⟩⟩ := reads_dom c I N hRj hAj hb
      have hlt := hDj b l' h2
      refine ⟨⟨l, h1⟩, hlt, same_at c I N h1 hlt (fun k ok hk hMk h => ?_) (fun h => by rw [hM] at h; cases h)⟩
      have hmr : mayRead o.op = true := by
        revert hb
        cases o.op <;> simp only [reads, mayRead] <;> try simp
        case binOp op t x y u => cases hq : isEq op <;> simp
        case call cl => obtain ⟨callee, args, tys⟩ := cl; cases callee <;> simp; rename_i bb; cases bb <;> simp
      refine c.fl j k o ok N.at' hk hMk hmr ?_ ?_ hw b hb
      · cases hbf : bef (befs ops.toList []) j k with
        | false => rfl
        | true =>
          have := bef_lt (drawOk_low c.ok) hbf
          rcases h with ⟨h3, h4⟩ | ⟨h3, h4⟩
          · omega
          · exact absurd ((I.prog k ok hk hMk).2 h4) (after_undone c I N hk hbf)
      · cases hbf : bef (befs ops.toList []) k j with
        | false => rfl
        | true =>
          have := bef_lt (drawOk_low c.ok) hbf
          rcases h with ⟨h3, h4⟩ | ⟨h3, h4⟩
          · have := (I.prog k ok hk hMk).1 (before_done c I N hk hbf); omega
          · omega
    obtain ⟨G, hGz, hG⟩ := heap_of (fun b => if b ∈ reads (AA j) o.op then weaken weak (K.get b) else .dead) K.size (HH j).size
    have hN0 : (HH j).size ≤ K.size := by rw [I.ksz]; exact c.size_le (by omega) (Nat.le_refl _)
    have hRG : Rel E ι G w := I.rel.faint fun b l hb => by
      rw [hG b (dom_lt c I hb)]
      split
      · exact weaken_faint' weak _
      · exact .inr (.inl rfl)
    have hRGj : Rel E ιj G wj := hRj.faint fun b l hb => by
      rw [hG b (by have := hDj b l hb; omega)]
      split
      · rename_i hb'; exact weaken_faint weak (hrd b hb').2.2
      · exact .inr (.inl rfl)
    have hR1 : Rel E (ι.meet ιj) G w := Rel.meet hRG hRGj fun _ _ _ _ _ => rfl
    have hDmG : Dm (ι.meet ιj) G := fun b l hb => by rw [hGz]; exact hDm1 b l hb
    obtain ⟨G', hop', hL⟩ := aop_local hM hop hGz (fun b hb => by
      obtain ⟨_, h1, h2⟩ := hrd b hb
      rw [hG b (by omega), if_pos hb]
      cases hwk : looksWeak o.op with
      | false =>
        have e : weak = false := hwk
        rw [e] at h2 ⊢
        simp [same] at h2
        simp [weaken, h2]
      | true =>
        have e : weak = true := hwk
        rw [e] at h2 ⊢
        simp only [same, if_true] at h2
        intro n
        simp only [szOk, hG b (show b < K.size by omega), if_pos hb, e, weaken, if_true]
        cases hx : (HH j).get b <;> cases hy : K.get b <;> simp [hx, hy, oszeq] at h2 ⊢
        subst h2; rfl)
    refine runOpV_sim c.hE c.hc hR1 hDmG hlen (c.opok j o N.at') (fun t ht v v' hv hv' => looked_meet c I N hAj t ht v v' hv hv') (.inl hop') fun ι' v' w' hv hR' hS' => ?_
    obtain ⟨K2, hz, hK2⟩ := heap_of (fun b => if (ι' b).isSome ∧ ι b = none then G'.get b else K.get b) K.size K.size
    have hN : (HH (j + 1)).size ≤ K.size := by rw [I.ksz]; exact c.size_le (by omega) (Nat.le_refl _)
    have hDm' : Dm ι' G' := hDmG.step hS'
    have hnew : ∀ b l, ι' b = some l → (ι.meet ιj) b = none → (HH j).size ≤ b ∧ b < (HH (j + 1)).size := fun b l hb hn => by
      have h1 := hS'.new b l hb hn
      rw [hGz, hL.size] at h1
      exact h1
    obtain ⟨g1, g2, g3, g4, g5⟩ := glue (taken := fun b => b ∈ reads (AA j) o.op ∧ weak = false) I.step I.rel hle1 hR' hS'
      (fun b l hb ht => by rw [hG b (by have := hDm1 b l hb; omega), if_pos ht.1, ht.2]; rfl)
      (fun b l hb ht => by
        simp only [wrt, hG b (show b < K.size by have := hDm1 b l hb; omega)]
        split
        · rename_i xs wr sz he
          split at he
          · rename_i hbr
            have hwk : weak = true := by
              cases hx : weak with
              | true => rfl
              | false => exact absurd ⟨hbr, hx⟩ ht
            rw [hwk] at he
            simp only [weaken, if_true] at he
            cases hy : K.get b <;> simp [hy] at he
            exact he.2.1
          · cases he
        · rename_i es clk he
          split at he
          · rename_i hbr
            have hwk : weak = true := by
              cases hx : weak with
              | true => rfl
              | false => exact absurd ⟨hbr, hx⟩ ht
            rw [hwk] at he
            simp only [weaken, if_true] at he
            cases hy : K.get b <;> simp [hy] at he
          · cases he
        · rfl)
      (fun b l hb hn => by
        have h1 := hnew b l hb hn
        have := c.size_le (i := 0) (j := j) (by omega) (by omega)
        exact ⟨none_at c I N h1.1 h1.2, by omega, by omega⟩) hz (by rw [hGz]; exact c.size_le (by omega) (by omega))
      (fun b l hb h => by
        have hbs : b < K.size := by have := hDm' b l hb; have := hL.size; omega
        rw [hK2 b hbs]
        rcases h with h | ⟨h, h'⟩
        · simp [hb, h]
        · obtain ⟨l1, hl1⟩ := Option.isSome_iff_exists.1 h
          have hi := hle1 _ _ hl1
          simp only [hb, hi, Option.isSome_some, reduceCtorEq, and_false, if_false]
          have hbj := hDm1 b l1 hl1
          rw [hL.old b hbj, hG b hbs, if_pos h'.1, h'.2]; rfl)
      (fun b hb h => by
        rw [hK2 b (by omega)]
        rcases h with h | ⟨h, _⟩
        · simp [h]
        · obtain ⟨l1, hl1⟩ := Option.isSome_iff_exists.1 h
          simp [hl1]) (fun b l hb => dom_lt c I hb) hDmG
    exact hK _ _ _ _ _ (inv_still c I N hM (v := v) (v' := v') g3 g1 g2 hz
      (fun b l hb => by rw [hK2 b (dom_lt c I hb)]; simp [hb])
      (fun b l hb hn => by
        obtain ⟨l', h1, h2⟩ := g5 b l hb hn
        obtain ⟨h3, h4⟩ := hnew b l' h1 h2
        refine ⟨h3, h4, ?_⟩
        rw [hK2 b (by omega)]
        simp only [h1, hn, Option.isSome_some, and_self, if_true]
        exact hL.new b h3 h4) hA (hv.mono g4))
  cases hcame with
  | not hw hA hH =>
    rw [if_neg (by rw [hws, hw]; simp)]
    exact hnot hw hA hH
  | val v hw hop hA =>
    rw [if_pos (by rw [hws, hw])]
    refine .inl ?_
    cases hM : isM o.op with
    | true => exact hmoved v hM hw (.inl hop) hA
    | false => exact hstill v hM hw hop hA
  | call v f args hw hop hcall hA =>
    rw [if_pos (by rw [hws, hw])]
    exact .inl (hmoved v (isM_call hop) hw (.inr ⟨f, args, hop, hcall⟩) hA)

end
end AbsYtlmcjfnignbdoaa
