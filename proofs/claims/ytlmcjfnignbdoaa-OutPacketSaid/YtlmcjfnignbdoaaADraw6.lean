/-
  A region that draws its order, whole.
-/
import Derived.Test.YtlmcjfnignbdoaaADraw5
namespace AbsYtlmcjfnignbdoaa
set_option linter.unusedVariables false
set_option linter.unusedSimpArgs false
set_option linter.unusedSectionVars false
open Go

section
variable {E : Env} {call : Call} {ops : Array Oper} {AA : Nat → List Value} {HH : Nat → AHeap} {ι0 : Emb} {w0 : World}

/-- one operation in the text's order: there is a world -/
theorem chain_op (hE : TyOk E) (hc : CallOk E call) {o : Oper} (hok : opOk E.ng o.op = true) {ι : Emb} {H H' : AHeap} {w : World} {A A' τ : List Value}
    (hR : Rel E ι H w) (hD : Dm ι H) (hA : RVs ι A τ) (h : runOp E call ops o A H = some (A', H')) :
    ∃ ι' w' τ', Rel E ι' H' w' ∧ Dm ι' H' ∧ RVs ι' A' τ' ∧ Step ι H w ι' H' w' := by
  let a : Act := { tmps := τ.toArray, defers := [] }
  have hAa : RVs ι A a.tmps.toList := by simpa [a] using hA
  cases came h with
  | not hw hA' hH =>
    subst hA'; subst hH
    exact ⟨ι, w, _, hR, hD, put_sim hAa RV.undef o.dst, Step.refl _ _ _⟩
  | val v hw hop hA' =>
    subst hA'
    obtain ⟨n, v', w', ι', _, _, hv, hR', hS'⟩ := aop_val hE hR hD.free hAa hok hop
    exact ⟨ι', w', _, hR', hD.step hS', put_sim (hAa.mono hS'.ext) hv o.dst, hS'⟩
  | call v f args hw hop hcall hA' =>
    subst hA'
    obtain ⟨args', hrun, hargs⟩ := aop_call hR hAa hok hop
    rcases hc.sim _ _ _ _ _ hcall ι w args' hR hD hargs with ⟨_, hcl⟩ | ⟨r', w', _, v', ι', he, hv, hR', hS'⟩
    · obtain ⟨e, w', fr, ⟨v', ι', _, hv, hR', hS'⟩, _⟩ := hcl []
      exact ⟨ι', w', _, hR', hD.step hS', put_sim (hAa.mono hS'.ext) hv o.dst, hS'⟩
    · exact ⟨ι', w', _, hR', hD.step hS', put_sim (hAa.mono hS'.ext) hv o.dst, hS'⟩

theorem runTr_spec : ∀ (l : List Oper) (A : List Value) (H : AHeap) (tr : List (List Value × AHeap)), runTr E call ops l A H = some tr →
    tr.length = l.length + 1 ∧ tr[0]? = some (A, H) ∧ ∀ (k : Nat) (o : Oper), l[k]? = some o → ∃ A1 H1 A2 H2, tr[k]? = some (A1, H1) ∧ tr[k + 1]? = some (A2, H2) ∧ runOp E call ops o A1 H1 = some (A2, H2)
  | [], A, H, tr, h => by
    simp only [runTr, Option.some.injEq] at h
    subst h
    exact ⟨rfl, rfl, fun k o hk => by simp at hk⟩
  | o :: l, A, H, tr, h => by
    simp only [runTr] at h
    split at h
    rotate_left
    · cases h
    rename_i A1 H1 hop
    simp only [Option.map_eq_some_iff] at h
    obtain ⟨tr1, h1, h2⟩ := h
    subst h2
    obtain ⟨k1, k2, k3⟩ := runTr_spec l A1 H1 tr1 h1
    refine ⟨by simp [k1], rfl, fun k o' hk => ?_⟩
    cases k with
    | zero =>
      simp at hk; subst hk
      exact ⟨A, H, A1, H1, rfl, by simpa using k2, hop⟩
    | succ k =>
      obtain ⟨B1, G1, B2, G2, m1, m2, m3⟩ := k3 k o' (by simpa using hk)
      exact ⟨B1, G1, B2, G2, by simpa using m1, by simpa using m2, m3⟩

theorem floatPairs_mem {i j : Nat} {oi oj : Oper} (hi : ops[i]? = some oi) (hj : ops[j]? = some oj) (hM : isM oj.op = true) (hr : mayRead oi.op = true) (h1 : bef (befs ops.toList []) i j = false) (h2 : bef (befs ops.toList []) j i = false) :
    (i, j) ∈ floatPairs ops := by
  simp only [floatPairs, List.mem_flatMap, List.mem_filter, List.mem_map]
  exact ⟨(oi, i), ⟨zipIdx_mem hi, hr⟩, (oj, j), ⟨zipIdx_mem hj, by simp [hM, h1, h2]⟩, rfl⟩

theorem count_set : ∀ (l : List Bool) (j : Nat), l[j]? = some false → (l.set j true).count false + 1 = l.count false
  | [], j, h => by simp at h
  | b :: l, 0, h => by simp at h; subst h; simp
  | b :: l, j + 1, h => by
    have := count_set l j (by simpa using h)
    simp only [List.set_cons_succ, List.count_cons]; omega

theorem draw_all (c : Ctx E call ops AA HH ι0 w0) {a0 : Act} {Q : Exit → Act → World → Prop}
    (hQ : ∀ ι K p listed a w, Inv E ops AA HH ι0 w0 a0 ι K p listed a w → (∀ i, i < ops.size → isIn listed i) → Q .normal a w) :
    ∀ (fuel : Nat) (listed : Array Bool) (ι : Emb) (K : AHeap) (p : Nat) (a : Act) (w : World), Inv E ops AA HH ι0 w0 a0 ι K p listed a w → listed.toList.count false ≤ fuel → wpAny E.P .any ops Q fuel listed a w := by
  have hdone : ∀ {listed : Array Bool} {ι : Emb} {K : AHeap} {p : Nat} {a : Act} {w : World}, Inv E ops AA HH ι0 w0 a0 ι K p listed a w → Region.ready .any ops listed = [] → Q .normal a w := by
    intro listed ι K p a w I hr
    refine hQ ι K p listed a w I fun i => ?_
    induction i using Nat.strongRecOn with
    | ind i ih =>
      intro hi
      obtain ⟨o, ho⟩ := lt_get (ops := ops) hi
      by_cases hl : isIn listed i
      · exact hl
      · exfalso
        have : i ∈ Region.ready .any ops listed := mem_ready.2 ⟨by
          have hs : i < listed.size := by rw [I.size]; exact hi
          simpa [isIn, hs] using hl, o, ho, fun e he hb => ih e.on (drawOk_low c.ok i o ho e he hb) (Nat.lt_trans (drawOk_low c.ok i o ho e he hb) hi)⟩
        rw [hr] at this; cases this
  intro fuel
  induction fuel with
  | zero =>
    intro listed ι K p a w I hcnt
    have hr : Region.ready .any ops listed = [] := by
      cases hx : Region.ready .any ops listed with
      | nil => rfl
      | cons i rest =>
        have hm : i ∈ Region.ready .any ops listed := by rw [hx]; simp
        obtain ⟨h0, o, ho, _⟩ := mem_ready.1 hm
        have hs : i < listed.size := by rw [I.size]; exact get_lt ho
        have : false ∈ listed.toList := by
          simp [hs] at h0
          rw [← h0]; simp
        have := List.count_pos_iff.2 this
        omega
    exact ⟨hr, hdone I hr⟩
  | succ fuel ih =>
    intro listed ι K p a w I hcnt
    refine ⟨hdone I, fun i hi => ?_⟩
    obtain ⟨o, N⟩ := next_of_ready rfl I.size hi
    refine draw_op c I N fun ι2 K2 p2 a2 w2 I2 => ih _ ι2 K2 p2 a2 w2 I2 ?_
    have hs : i < listed.size := by rw [I.size]; exact get_lt N.at'
    have hf : listed.toList[i]? = some false := by
      have := (mem_ready.1 hi).1
      simp [hs] at this
      simp [hs, this]
    have := count_set _ _ hf
    rw [Array.toList_setIfInBounds]; omega

theorem Ctx.finish (c : Ctx E call ops AA HH ι0 w0) {a0 a : Act} {ι : Emb} {K : AHeap} {p : Nat} {listed : Array Bool} {w : World} (I : Inv E ops AA HH ι0 w0 a0 ι K p listed a w) (hall : ∀ i, i < ops.size → isIn listed i) :
    RVs ι (AA ops.size) a.tmps.toList ∧ Rel E ι (HH ops.size) w ∧ Step ι0 (HH 0) w0 ι (HH ops.size) w := by
  have hM : ∀ i oi, ops[i]? = some oi → isM oi.op = true → i < p := fun i oi hi hMi => (I.prog i oi hi hMi).1 (hall i (get_lt hi))
  have hK : ∀ b l, ι b = some l → (HH ops.size).get b = K.get b := fun b l hb => by
    rcases Nat.lt_or_ge b (HH p).size with h | h
    · rw [I.c1 b l hb h]
      exact c.keep_range I.le (Nat.le_refl _) h fun k ok hk h1 h2 => by
        cases hx : isM ok.op with
        | false => rfl
        | true => have := hM k ok hk hx; omega
    · rcases I.dom b l hb with h5 | ⟨i, h5, h6, h7, h8⟩
      · have := c.size_le (i := 0) (j := p) (by omega) I.le; omega
      · have hpi : p ≤ i := by
          rcases Nat.lt_or_ge i p with h9 | h9
          · have := c.size_le (i := i + 1) (j := p) h9 I.le; omega
          · exact h9
        rw [I.c2 i b l hpi h5 h6 hb h7 h8]
        exact c.keep_range (x := i + 1) (by omega) (Nat.le_refl _) h8 fun k ok hk h1 h2 => by
          cases hx : isM ok.op with
          | false => rfl
          | true => have := hM k ok hk hx; omega
  obtain ⟨ιn, wn, τn, _, _, _, hSn⟩ := c.chain ops.size (Nat.le_refl _)
  have hS := I.step
  refine ⟨?_, I.rel.congr hK, ?_⟩
  · refine RVs.of_get (by rw [c.length (Nat.le_refl _), ← I.len]; simp) fun t v v' hv hv' => ?_
    obtain ⟨q, h1, h2, h3⟩ := I.tmps t v' (by simpa using hv')
    rw [c.tmp_eq h1 (Nat.le_refl _) fun k ok hk hd => by
      have := h2 k ok hk hd
      have h4 := hall k (get_lt hk)
      have h5 := get_lt hk
      exact ⟨fun _ => h5, fun _ => this.1 h4⟩] at h3
    have : (AA ops.size).getD t undef = v := by simp [List.getD, hv]
    rw [this] at h3; exact h3
  · refine ⟨hS.ext, ?_, by rw [← I.ksz]; exact hS.hsz, ?_, hS.place, ?_, hS.os, hS.tape, hS.output, hS.size, hS.frame, ?_⟩
    · intro b l hb hn; rw [← I.ksz]; exact hS.new b l hb hn
    · intro b l hb hw; exact hS.own b l hb (by simpa only [wrt, hK b l hb] using hw)
    · intro b hb hl
      cases hx : ι b with
      | some l => exact hS.liv b hb (by simpa only [live, hK b l hx] using hl)
      | none =>
        have hn : ι0 b = none := by
          cases hy : ι0 b with
          | none => rfl
          | some l => rw [hS.ext _ _ hy] at hx; cases hx
        simpa only [live, hSn.away b hb hn] using hl
    · intro b hb hn; exact hSn.away b hb hn

theorem runDraw_sim (hE : TyOk E) (hc : CallOk E call) (hok : drawOk ops = true) (hop : ops.toList.all (fun o => opOk E.ng o.op) = true) (hm : E.P.follows .mixedOrders = true)
    {ι : Emb} {H H' : AHeap} {w : World} {A A' : List Value} {a : Act} (hR : Rel E ι H w) (hD : Dm ι H) (hA : RVs ι A a.tmps.toList) (hr : runDraw E call ops A H = some (A', H'))
    {Q : Exit → Act → World → Prop} (hQ : ∀ ι' a' w', RVs ι' A' a'.tmps.toList → a'.defers = a.defers → Rel E ι' H' w' → Step ι H w ι' H' w' → Q .normal a' w') (id : Nat) : (Code.region id ops true).wp E.P Q a w := by
  refine wp_region_any hm ?_
  unfold runDraw at hr
  split at hr
  rotate_left
  · cases hr
  rename_i tr htr
  split at hr
  rotate_left
  · cases hr
  rename_i hfl
  obtain ⟨t1, t2, t3⟩ := runTr_spec _ _ _ _ htr
  have hopk : ∀ (k : Nat) (o : Oper), ops[k]? = some o → opOk E.ng o.op = true := fun k o hk => by
    rw [List.all_eq_true] at hop
    exact hop o (by simpa using Array.mem_of_getElem? hk)
  let AA : Nat → List Value := fun k => (tr.getD k (A, H)).1
  let HH : Nat → AHeap := fun k => (tr.getD k (A, H)).2
  have hat : ∀ {k B G}, tr[k]? = some (B, G) → AA k = B ∧ HH k = G := fun {k B G} h => by simp [AA, HH, List.getD, h]
  obtain ⟨hA0, hH0⟩ := hat t2
  let w1 : World := { w with drawn := w.drawn + 1 }
  have hR1 : Rel E ι H w1 := hR.world rfl
  have hrun : ∀ k o, ops[k]? = some o → runOp E call ops o (AA k) (HH k) = some (AA (k + 1), HH (k + 1)) := fun k o hk => by
    obtain ⟨B1, G1, B2, G2, m1, m2, m3⟩ := t3 k o (by simpa using hk)
    rw [(hat m1).1, (hat m1).2, (hat m2).1, (hat m2).2]; exact m3
  have hchain : ∀ k, k ≤ ops.size → ∃ ι' w' τ, Rel E ι' (HH k) w' ∧ Dm ι' (HH k) ∧ RVs ι' (AA k) τ ∧ Step ι (HH 0) w1 ι' (HH k) w' := by
    intro k
    induction k with
    | zero => intro _; rw [hH0, hA0]; exact ⟨ι, w1, _, hR1, hD, hA, Step.refl _ _ _⟩
    | succ k ih =>
      intro hk
      obtain ⟨ιk, wk, τk, r1, r2, r3, r4⟩ := ih (by omega)
      obtain ⟨o, ho⟩ := lt_get (ops := ops) (show k < ops.size by omega)
      obtain ⟨ι', w', τ', s1, s2, s3, s4⟩ := chain_op hE hc (hopk k o ho) r1 r2 r3 (hrun k o ho)
      exact ⟨ι', w', τ', s1, s2, s3, r4.trans s4⟩
  have c : Ctx E call ops AA HH ι w1 := by
    refine ⟨hE, hc, hok, hopk, hrun, hchain, ?_⟩
    intro i j oi oj hi hj hMj hri h1 h2 hw b hb
    have := (List.all_eq_true.1 hfl) _ (floatPairs_mem hi hj hMj hri h1 h2)
    obtain ⟨B1, G1, _, _, m1, _, _⟩ := t3 i oi (by simpa using hi)
    obtain ⟨C1, F1, C2, F2, n1, n2, _⟩ := t3 j oj (by simpa using hj)
    rw [(hat m1).1] at hw hb
    rw [(hat n1).2, (hat n2).2]
    simp only [floatOk, m1, hi, n1, n2, hw, Bool.not_true, Bool.false_or, List.all_eq_true] at this
    have := this b hb
    simp only [same]
    split at this
    · rename_i hwk; rw [if_pos hwk]; exact this
    · rename_i hwk; rw [if_neg hwk]; exact oeq_eq this
  have hlast : AA ops.size = A' ∧ HH ops.size = H' := by
    have : tr[ops.size]? = some (A', H') := by
      rw [List.getLast?_eq_getElem?, t1] at hr
      simpa using hr
    exact hat this
  have hI : Inv E ops AA HH ι w1 a ι ⟨(HH 0).tr, (HH ops.size).size⟩ 0 (Array.replicate ops.size false) a w1 := by
    have hno : ∀ i, ¬ isIn (Array.replicate ops.size false) i := fun i h => by
      unfold isIn at h
      rcases Nat.lt_or_ge i ops.size with h' | h' <;> simp [h'] at h
    have hg : ∀ b, AHeap.get ⟨(HH 0).tr, (HH ops.size).size⟩ b = (HH 0).get b := fun b => rfl
    refine ⟨by simp, fun i o hi => absurd hi (hno i), Nat.zero_le _, fun i o _ _ => ⟨fun h => absurd h (hno i), fun h => by omega⟩, ?_, ?_, rfl, ?_, fun b l _ _ => hg b, fun i b l _ _ h => absurd h (hno i), fun i o b h => by omega, rfl, ?_, ?_⟩
    · rw [hH0]; exact hR1.congr fun b l _ => rfl
    · refine ⟨Emb.le.refl _, fun b l h h' => (by rw [h] at h'; cases h'), c.size_le (by omega) (Nat.le_refl _), fun b l h hw => .inr ⟨b, l, h, rfl, hw⟩, fun b l h h' => (by rw [h] at h'; cases h'), fun b _ h => h, rfl, rfl, rfl, Nat.le_refl _, fun _ _ _ => rfl, fun _ _ _ => rfl⟩
    · intro b l hb; left; rw [hH0]; exact hD b l hb
    · rw [hA0, hA.length]; simp
    · intro t v' hv
      refine ⟨0, Nat.zero_le _, fun i o _ _ => ⟨fun h => absurd h (hno i), fun h => by omega⟩, ?_⟩
      rw [hA0]
      have hlt : t < A.length := by rw [hA.length]; simpa using (Array.getElem?_eq_some_iff.1 hv).1
      obtain ⟨u, hu1, hu2⟩ := hA.get t A[t] (by simp [hlt])
      have : u = v' := by
        rw [Array.getElem?_toList, hv] at hu1; exact (Option.some.inj hu1).symm
      subst this
      simpa [List.getD, hlt] using hu2
  refine draw_all c (a0 := a) (fun ι' K' p' listed' a' w' I hall => ?_) ops.size _ ι _ 0 a w1 hI ?_
  · obtain ⟨f1, f2, f3⟩ := c.finish I hall
    rw [hlast.1] at f1
    rw [hlast.2] at f2 f3
    rw [hH0] at f3
    refine hQ ι' a' w' f1 I.defers f2 ⟨f3.ext, f3.new, f3.hsz, f3.own, f3.place, f3.liv, f3.os, f3.tape, f3.output, f3.size, f3.frame, f3.away⟩
  · simp

end
end AbsYtlmcjfnignbdoaa
