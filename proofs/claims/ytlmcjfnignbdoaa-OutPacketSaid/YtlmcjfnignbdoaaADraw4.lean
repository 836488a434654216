/-
  A region that draws its order: the text's order stands for every order.
-/
import Derived.Test.YtlmcjfnignbdoaaADraw3
namespace AbsYtlmcjfnignbdoaa
set_option linter.unusedVariables false
set_option linter.unusedSimpArgs false
set_option linter.unusedSectionVars false
open Go

structure Ctx (E : Env) (call : Call) (ops : Array Oper) (AA : Nat → List Value) (HH : Nat → AHeap) (ι0 : Emb) (w0 : World) : Prop where
  hE : TyOk E
  hc : CallOk E call
  ok : drawOk ops = true
  opok : ∀ (k : Nat) (o : Oper), ops[k]? = some o → opOk E.ng o.op = true
  run : ∀ k o, ops[k]? = some o → runOp E call ops o (AA k) (HH k) = some (AA (k + 1), HH (k + 1))
  chain : ∀ k, k ≤ ops.size → ∃ ι w τ, Rel E ι (HH k) w ∧ Dm ι (HH k) ∧ RVs ι (AA k) τ ∧ Step ι0 (HH 0) w0 ι (HH k) w
  fl : ∀ i j oi oj, ops[i]? = some oi → ops[j]? = some oj → isM oj.op = true → mayRead oi.op = true → bef (befs ops.toList []) i j = false → bef (befs ops.toList []) j i = false →
    Region.wanted oi (ayield ops (AA i)) = true → ∀ b ∈ reads (AA i) oi.op, same (looksWeak oi.op) ((HH j).get b) ((HH (j + 1)).get b)

section
variable {E : Env} {call : Call} {ops : Array Oper} {AA : Nat → List Value} {HH : Nat → AHeap} {ι0 : Emb} {w0 : World} (c : Ctx E call ops AA HH ι0 w0)

theorem get_lt {k : Nat} {o : Oper} (h : ops[k]? = some o) : k < ops.size := (Array.getElem?_eq_some_iff.1 h).1
theorem lt_get {k : Nat} (h : k < ops.size) : ∃ o, ops[k]? = some o := ⟨ops[k], by simp [h]⟩

include c in
theorem Ctx.size_le {i j : Nat} (hij : i ≤ j) (hj : j ≤ ops.size) : (HH i).size ≤ (HH j).size := by
  induction j with
  | zero => have : i = 0 := by omega
            subst this; exact Nat.le_refl _
  | succ j ih =>
    by_cases h : i = j + 1
    · subst h; exact Nat.le_refl _
    · obtain ⟨o, ho⟩ := lt_get (ops := ops) (show j < ops.size by omega)
      exact Nat.le_trans (ih (by omega) (by omega)) (runOp_size c.hc (c.run j o ho))

/-- what an operation came to -/
inductive Came (E : Env) (call : Call) (ops : Array Oper) (o : Oper) (A : List Value) (H : AHeap) (A' : List Value) (H' : AHeap) : Prop
  | not (hw : Region.wanted o (ayield ops A) = false) (hA : A' = aput A o.dst undef) (hH : H' = H)
  | val (v : Value) (hw : Region.wanted o (ayield ops A) = true) (hop : aop E A H o.op = some (.val v H')) (hA : A' = aput A o.dst v)
  | call (v : Value) (f : Nat) (args : List Value) (hw : Region.wanted o (ayield ops A) = true) (hop : aop E A H o.op = some (.call f args)) (hcall : call f args H = some (v, H')) (hA : A' = aput A o.dst v)

theorem came {o : Oper} {A A' : List Value} {H H' : AHeap} (h : runOp E call ops o A H = some (A', H')) : Came E call ops o A H A' H' := by
  unfold runOp at h
  split at h
  · rename_i hw
    split at h
    · cases h
    · rename_i v H1 hop
      injection h with h; injection h with h1 h2; subst h1; subst h2
      exact .val v hw hop rfl
    · rename_i f args hop
      split at h
      · rename_i v H1 hcall
        injection h with h; injection h with h1 h2; subst h1; subst h2
        exact .call v f args hw hop hcall rfl
      · cases h
  · rename_i hw
    injection h with h; injection h with h1 h2; subst h1; subst h2
    exact .not (by simpa using hw) rfl rfl

theorem aput_length (A : List Value) (d : Option Tmp) (v : Value) : (aput A d v).length = A.length := by cases d <;> simp [aput]
theorem aput_ne {A : List Value} {d : Option Tmp} {v : Value} {t : Nat} (h : d ≠ some t) (u : Value) : (aput A d v).getD t u = A.getD t u := by
  cases d with
  | none => rfl
  | some d =>
    have : d ≠ t := fun e => h (by rw [e])
    simp [aput, List.getD, List.getElem?_set_ne this]
theorem aput_same {A : List Value} {t : Nat} {v : Value} (h : t < A.length) (u : Value) : (aput A (some t) v).getD t u = v := by
  simp [aput, List.getD, h]

theorem Came.put {o : Oper} {A A' : List Value} {H H' : AHeap} (h : Came E call ops o A H A' H') : ∃ v, A' = aput A o.dst v := by
  cases h with
  | not _ hA _ => exact ⟨_, hA⟩
  | val v _ _ hA => exact ⟨_, hA⟩
  | call v _ _ _ _ _ hA => exact ⟨_, hA⟩

include c in
theorem Ctx.length {k : Nat} (hk : k ≤ ops.size) : (AA k).length = (AA 0).length := by
  induction k with
  | zero => rfl
  | succ k ih =>
    obtain ⟨o, ho⟩ := lt_get (ops := ops) (show k < ops.size by omega)
    obtain ⟨v, hv⟩ := (came (c.run k o ho)).put
    rw [hv, aput_length, ih (by omega)]

include c in
/-- a temporary between two writers -/
theorem Ctx.tmp_same {t i j : Nat} (hij : i ≤ j) (hj : j ≤ ops.size) (h : ∀ k o, ops[k]? = some o → i ≤ k → k < j → o.dst ≠ some t) : (AA j).getD t undef = (AA i).getD t undef := by
  induction j with
  | zero => have : i = 0 := by omega
            subst this; rfl
  | succ j ih =>
    by_cases he : i = j + 1
    · subst he; rfl
    · obtain ⟨o, ho⟩ := lt_get (ops := ops) (show j < ops.size by omega)
      obtain ⟨v, hv⟩ := (came (c.run j o ho)).put
      rw [hv, aput_ne (h j o ho (by omega) (by omega)), ih (by omega) (by omega) fun k o' hk h1 h2 => h k o' hk h1 (by omega)]

include c in
theorem Ctx.tmp_eq {t q j : Nat} (hq : q ≤ ops.size) (hj : j ≤ ops.size) (h : ∀ k o, ops[k]? = some o → o.dst = some t → (k < q ↔ k < j)) : (AA q).getD t undef = (AA j).getD t undef := by
  rcases Nat.le_total q j with hqj | hqj
  · exact (c.tmp_same hqj hj fun k o hk h1 h2 hd => by have := h k o hk hd; omega).symm
  · exact c.tmp_same hqj hq fun k o hk h1 h2 hd => by have := h k o hk hd; omega

theorem isM_call {A : List Value} {H : AHeap} {op : Op} {f : Nat} {args : List Value} (h : aop E A H op = some (.call f args)) : isM op = true := by
  cases op <;> simp only [aop] at h <;> try (cases h; done)
  case call cl =>
    obtain ⟨callee, cargs, tys⟩ := cl
    cases callee with
    | invoke r m => cases h
    | value f => rfl
    | builtin b => exact absurd h hres_call
  case makeFunc fn fs cs => cases fn <;> simp only at h <;> first | (cases h; done) | (injection h with h; cases h; done)
  case makeMap t r => cases r <;> simp only at h <;> first | (cases h; done) | (injection h with h; cases h; done)
  all_goals first
    | exact absurd h vres_call
    | exact absurd h hres_call
    | exact absurd h ures_call
    | (split at h <;> first | exact absurd h vres_call | (injection h with h; cases h; done) | (cases h; done) | (split at h <;> first | (injection h with h; cases h; done) | (cases h; done)))
    | (injection h with h; cases h; done)

/-- what changes nothing leaves every block as it was -/
theorem aop_keep {A : List Value} {H H' : AHeap} {op : Op} {v : Value} (hM : isM op = false) (h : aop E A H op = some (.val v H')) (b : Nat) (hb : b < H.size) : H'.get b = H.get b := by
  obtain ⟨K', _, hl⟩ := aop_local (K := H) hM h rfl (fun b hb => by split <;> intros <;> rfl)
  exact hl.old' b hb

include c in
theorem Ctx.keep {k : Nat} {o : Oper} (ho : ops[k]? = some o) (hM : isM o.op = false) (b : Nat) (hb : b < (HH k).size) : (HH (k + 1)).get b = (HH k).get b := by
  cases came (c.run k o ho) with
  | not _ _ hH => rw [hH]
  | val v _ hop _ => exact aop_keep hM hop b hb
  | call v f args _ hop _ _ => rw [isM_call hop] at hM; cases hM

include c in
theorem Ctx.same_range {weak : Bool} {x y b : Nat} (hxy : x ≤ y) (hy : y ≤ ops.size) (hb : b < (HH x).size)
    (h : ∀ k o, ops[k]? = some o → x ≤ k → k < y → isM o.op = true → same weak ((HH k).get b) ((HH (k + 1)).get b)) : same weak ((HH x).get b) ((HH y).get b) := by
  induction y with
  | zero => have : x = 0 := by omega
            subst this; exact same.rfl _ _
  | succ y ih =>
    by_cases he : x = y + 1
    · subst he; exact same.rfl _ _
    · obtain ⟨o, ho⟩ := lt_get (ops := ops) (show y < ops.size by omega)
      refine (ih (by omega) (by omega) fun k o' hk h1 h2 h3 => h k o' hk h1 (by omega) h3).trans ?_
      cases hM : isM o.op with
      | true => exact h y o ho (by omega) (by omega) hM
      | false =>
        rw [c.keep ho hM b (Nat.lt_of_lt_of_le hb (c.size_le (by omega) (by omega)))]
        exact same.rfl _ _
include c in
theorem Ctx.keep_range {x y b : Nat} (hxy : x ≤ y) (hy : y ≤ ops.size) (hb : b < (HH x).size)
    (h : ∀ k o, ops[k]? = some o → x ≤ k → k < y → isM o.op = false) : (HH y).get b = (HH x).get b := by
  have := c.same_range (weak := false) hxy hy hb fun k o hk h1 h2 h3 => by rw [h k o hk h1 h2] at h3; cases h3
  exact (by simpa [same] using this : (HH x).get b = (HH y).get b).symm

include c in
/-- whose number a name has -/
theorem Ctx.birth {i j b : Nat} (hi : i < ops.size) (hj : j < ops.size) (h1 : (HH i).size ≤ b) (h2 : b < (HH (i + 1)).size) (h3 : (HH j).size ≤ b) (h4 : b < (HH (j + 1)).size) : i = j := by
  rcases Nat.lt_trichotomy i j with h | h | h
  · have := c.size_le (i := i + 1) (j := j) (by omega) (by omega); omega
  · exact h
  · have := c.size_le (i := j + 1) (j := i) (by omega) (by omega); omega

/-! ### the state within the region -/
structure Inv (E : Env) (ops : Array Oper) (AA : Nat → List Value) (HH : Nat → AHeap) (ι0 : Emb) (w0 : World) (a0 : Act) (ι : Emb) (K : AHeap) (p : Nat) (listed : Array Bool) (a : Act) (w : World) : Prop where
  size : listed.size = ops.size
  closed : closedUnder ops (isIn listed)
  le : p ≤ ops.size
  prog : ∀ i o, ops[i]? = some o → isM o.op = true → (isIn listed i ↔ i < p)
  rel : Rel E ι K w
  step : Step ι0 (HH 0) w0 ι K w
  ksz : K.size = (HH ops.size).size
  dom : ∀ b l, ι b = some l → b < (HH 0).size ∨ ∃ i, i < ops.size ∧ isIn listed i ∧ (HH i).size ≤ b ∧ b < (HH (i + 1)).size
  c1 : ∀ b l, ι b = some l → b < (HH p).size → K.get b = (HH p).get b
  c2 : ∀ i b l, p ≤ i → i < ops.size → isIn listed i → ι b = some l → (HH i).size ≤ b → b < (HH (i + 1)).size → K.get b = (HH (i + 1)).get b
  c3 : ∀ i o b, i < p → ops[i]? = some o → isM o.op = false → ¬ isIn listed i → (HH i).size ≤ b → b < (HH (i + 1)).size → (HH p).get b = (HH (i + 1)).get b
  defers : a.defers = a0.defers
  len : a.tmps.size = (AA 0).length
  tmps : ∀ t v', a.tmps[t]? = some v' → ∃ q, q ≤ ops.size ∧ (∀ i o, ops[i]? = some o → o.dst = some t → (isIn listed i ↔ i < q)) ∧ RV ι ((AA q).getD t undef) v'

section
variable {ι : Emb} {w : World} {a0 a : Act} {K : AHeap} {p : Nat} {listed : Array Bool} (I : Inv E ops AA HH ι0 w0 a0 ι K p listed a w)

theorem isIn_set {i j : Nat} (hj : j < listed.size) : isIn (listed.setIfInBounds j true) i ↔ i = j ∨ isIn listed i := by
  unfold isIn
  by_cases h : j = i
  · subst h; simp [hj]
  · rw [getD_set_ne false h]
    constructor
    · exact .inr
    · rintro (rfl | h1)
      · exact absurd rfl h
      · exact h1

/-- an operation that may come next -/
structure Next (ops : Array Oper) (listed : Array Bool) (j : Nat) (o : Oper) : Prop where
  at' : ops[j]? = some o
  not : ¬ isIn listed j
  after : ∀ e ∈ o.after, Region.binds .any e = true → isIn listed e.on

theorem next_of_ready {md : Region.Mode} (hmd : md = .any) {j : Nat} (hs : listed.size = ops.size) (h : j ∈ Region.ready md ops listed) : ∃ o, Next ops listed j o := by
  subst hmd
  obtain ⟨h0, o, ho, hall⟩ := mem_ready.1 h
  refine ⟨o, ho, ?_, hall⟩
  have hj : j < listed.size := by rw [hs]; exact get_lt ho
  simp [hj] at h0
  simp [isIn, hj, h0]

variable {j : Nat} {o : Oper} (N : Next ops listed j o)

include c I N in
theorem before_done {i : Nat} {oi : Oper} (hi : ops[i]? = some oi) (hb : bef (befs ops.toList []) i j = true) : isIn listed i :=
  bef_in I.closed hb N.at' N.after
include c I N in
theorem after_undone {i : Nat} {oi : Oper} (hi : ops[i]? = some oi) (hb : bef (befs ops.toList []) j i = true) : ¬ isIn listed i := fun h =>
  N.not (bef_in I.closed hb hi fun e he hbe => I.closed i oi h hi e he hbe)

include c I N in
/-- who writes what this operation looks at, or writes -/
theorem writers {t : Nat} (ht : t ∈ o.looksAt ops ∨ o.dst = some t) {i : Nat} {oi : Oper} (hi : ops[i]? = some oi) (hd : oi.dst = some t) : isIn listed i ↔ i < j := by
  rcases Nat.lt_trichotomy i j with h | h | h
  · refine ⟨fun _ => h, fun _ => ?_⟩
    cases hb : bef (befs ops.toList []) i j with
    | true => exact before_done c I N hi hb
    | false =>
      obtain ⟨h1, h2, h3⟩ := Oper.apart_spec (drawOk_pair c.ok hi N.at' h hb).1
      rcases ht with ht | ht
      · exact absurd ht (h1 t hd)
      · exact absurd ht (h2 t hd)
  · subst h
    exact ⟨fun hh => absurd hh N.not, fun hh => by omega⟩
  · refine ⟨fun hh => ?_, fun hh => by omega⟩
    cases hb : bef (befs ops.toList []) j i with
    | true => exact absurd hh (after_undone c I N hi hb)
    | false =>
      obtain ⟨h1, h2, h3⟩ := Oper.apart_spec (drawOk_pair c.ok N.at' hi h hb).1
      rcases ht with ht | ht
      · exact absurd ht (h3 t hd)
      · exact absurd hd (h2 t ht)

include c I N in
theorem looked {t : Nat} (ht : t ∈ o.looksAt ops) {v' : Value} (hv : a.tmps[t]? = some v') : RV ι ((AA j).getD t undef) v' := by
  obtain ⟨q, h1, h2, h3⟩ := I.tmps t v' hv
  rw [c.tmp_eq h1 (Nat.le_of_lt (get_lt N.at')) fun k ok hk hd => by rw [← h2 k ok hk hd]; exact writers c I N (.inl ht) hk hd] at h3
  exact h3

include c I N in
theorem wanted_same : Region.wanted o (yielded ops a.tmps) = Region.wanted o (ayield ops (AA j)) := by
  unfold Region.wanted
  cases hg : o.guard with
  | none => rfl
  | some gw =>
    obtain ⟨g, want⟩ := gw
    simp only
    congr 1
    unfold yielded ayield
    cases hd : (ops[g]?).bind (·.dst) with
    | none => simp
    | some t =>
      simp only [Option.bind_some]
      have ht : t ∈ o.looksAt ops := List.mem_append_right _ (by simp [hg, hd])
      have hlen := c.length (Nat.le_of_lt (get_lt N.at'))
      cases hv : a.tmps[t]? with
      | none =>
        have : (AA j)[t]? = none := by
          rw [List.getElem?_eq_none_iff, hlen, ← I.len]
          simpa using hv
        rw [this]
      | some v' =>
        have hlt : t < (AA j).length := by rw [hlen, ← I.len]; exact (Array.getElem?_eq_some_iff.1 hv).1
        have hr := looked c I N ht hv
        have : (AA j)[t]? = some ((AA j).getD t undef) := by simp [List.getD, hlt]
        rw [this]
        generalize (AA j).getD t undef = u at hr
        cases hr <;> rfl

include c I N in
theorem closed_next : closedUnder ops (isIn (listed.setIfInBounds j true)) := by
  have hj : j < listed.size := by rw [I.size]; exact get_lt N.at'
  intro i oi hi hoi e he hb
  rw [isIn_set hj] at hi ⊢
  rcases hi with rfl | hi
  · rw [N.at'] at hoi; injection hoi with hoi; subst hoi
    exact .inr (N.after e he hb)
  · exact .inr (I.closed i oi hi hoi e he hb)

include c I N in
theorem tmps_next {ι2 : Emb} (hle : ι.le ι2) {v v' : Value} (hA : AA (j + 1) = aput (AA j) o.dst v) (hv : RV ι2 v v') (t : Nat) (u : Value) (hu : (a.put o.dst v').tmps[t]? = some u) :
    ∃ q, q ≤ ops.size ∧ (∀ i oi, ops[i]? = some oi → oi.dst = some t → (isIn (listed.setIfInBounds j true) i ↔ i < q)) ∧ RV ι2 ((AA q).getD t undef) u := by
  have hj : j < listed.size := by rw [I.size]; exact get_lt N.at'
  have hjn := get_lt N.at'
  by_cases hd : o.dst = some t
  · refine ⟨j + 1, hjn, fun i oi hi hdi => ?_, ?_⟩
    · rw [isIn_set hj, writers c I N (.inr hd) hi hdi]; omega
    · have hlt : t < (AA j).length := by
        rw [c.length (Nat.le_of_lt hjn), ← I.len]
        have := (Array.getElem?_eq_some_iff.1 hu).1
        rw [hd] at this
        simpa [Act.put] using this
      rw [hA, hd, aput_same hlt]
      have : u = v' := by
        rw [hd] at hu
        have hlt' : t < a.tmps.size := by rw [I.len, ← c.length (Nat.le_of_lt hjn)]; exact hlt
        simp [Act.put, hlt'] at hu
        exact hu.symm
      rw [this]; exact hv
  · have hu' : a.tmps[t]? = some u := by
      cases hdd : o.dst with
      | none => rw [hdd] at hu; exact hu
      | some d =>
        have hne : d ≠ t := fun e => hd (by rw [hdd, e])
        rw [hdd] at hu
        simpa [Act.put, Array.getElem?_setIfInBounds_ne hne] using hu
    obtain ⟨q, h1, h2, h3⟩ := I.tmps t u hu'
    refine ⟨q, h1, fun i oi hi hdi => ?_, h3.mono hle⟩
    rw [isIn_set hj, ← h2 i oi hi hdi]
    constructor
    · rintro (rfl | h)
      · rw [N.at'] at hi; injection hi with hi; subst hi; exact absurd hdi hd
      · exact h
    · exact .inr

include c I N in
/-- after an operation that changes nothing -/
theorem inv_still (hM : isM o.op = false) {ι2 : Emb} {K2 : AHeap} {w2 : World} {v v' : Value} (hle : ι.le ι2) (hR : Rel E ι2 K2 w2) (hS : Step ι0 (HH 0) w0 ι2 K2 w2) (hz : K2.size = K.size)
    (hold : ∀ b l, ι b = some l → K2.get b = K.get b) (hnew : ∀ b l, ι2 b = some l → ι b = none → (HH j).size ≤ b ∧ b < (HH (j + 1)).size ∧ K2.get b = (HH (j + 1)).get b)
    (hA : AA (j + 1) = aput (AA j) o.dst v) (hv : RV ι2 v v') : Inv E ops AA HH ι0 w0 a0 ι2 K2 p (listed.setIfInBounds j true) (a.put o.dst v') w2 := by
  have hj : j < listed.size := by rw [I.size]; exact get_lt N.at'
  have hjn := get_lt N.at'
  have hup : ∀ {b l}, ι2 b = some l → ι b = none ∨ ∃ l', ι b = some l' := fun {b l} h => by cases ι b <;> simp
  have hnot : ∀ {b l}, ι b = some l → (HH j).size ≤ b → b < (HH (j + 1)).size → False := fun {b l} hb h1 h2 => by
    rcases I.dom b l hb with h | ⟨i, h3, h4, h5, h6⟩
    · have := c.size_le (i := 0) (j := j) (by omega) (by omega); omega
    · have := c.birth h3 hjn h5 h6 h1 h2
      subst this; exact N.not h4
  refine ⟨by simp [I.size], closed_next c I N, I.le, ?_, hR, hS, by rw [hz, I.ksz], ?_, ?_, ?_, ?_, ?_, ?_, ?_⟩
  · intro i oi hi hMi
    rw [isIn_set hj, ← I.prog i oi hi hMi]
    constructor
    · rintro (rfl | h)
      · rw [N.at'] at hi; injection hi with hi; subst hi; rw [hM] at hMi; cases hMi
      · exact h
    · exact .inr
  · intro b l hb
    rcases hup hb with h | ⟨l', h⟩
    · obtain ⟨h1, h2, _⟩ := hnew b l hb h
      exact .inr ⟨j, hjn, (isIn_set hj).2 (.inl rfl), h1, h2⟩
    · rcases I.dom b l' h with h | ⟨i, h3, h4, h5⟩
      · exact .inl h
      · exact .inr ⟨i, h3, (isIn_set hj).2 (.inr h4), h5⟩
  · intro b l hb hbp
    rcases hup hb with h | ⟨l', h⟩
    · obtain ⟨h1, h2, h3⟩ := hnew b l hb h
      rw [h3]
      have hjp : j < p := by
        rcases Nat.lt_or_ge j p with h | h
        · exact h
        · have := c.size_le (i := p) (j := j) h (by omega); omega
      exact (I.c3 j o b hjp N.at' hM N.not h1 h2).symm
    · rw [hold b l' h]; exact I.c1 b l' h hbp
  · intro i b l hpi hi hin hb h1 h2
    rcases hup hb with h | ⟨l', h⟩
    · obtain ⟨h3, h4, h5⟩ := hnew b l hb h
      have := c.birth hi hjn h1 h2 h3 h4
      subst this; exact h5
    · rw [hold b l' h]
      rcases (isIn_set hj).1 hin with rfl | hin
      · exact (hnot h h1 h2).elim
      · exact I.c2 i b l' hpi hi hin h h1 h2
  · intro i oi b hip hi hMi hin h1 h2
    exact I.c3 i oi b hip hi hMi (fun h => hin ((isIn_set hj).2 (.inr h))) h1 h2
  · rw [AbsYtlmcjfnignbdoaa.put_defers]; exact I.defers
  · rw [← I.len]; cases o.dst <;> simp [Act.put]
  · exact fun t u hu => tmps_next c I N hle hA hv t u hu

include c I N in
/-- after an operation that may change what lies there -/
theorem inv_moved (hM : isM o.op = true) {ι2 : Emb} {K2 : AHeap} {w2 : World} {v v' : Value} (hle : ι.le ι2) (hR : Rel E ι2 K2 w2) (hS : Step ι0 (HH 0) w0 ι2 K2 w2) (hz : K2.size = K.size)
    (hlow : ∀ b l, ι2 b = some l → b < (HH (j + 1)).size → K2.get b = (HH (j + 1)).get b) (hhigh : ∀ b l, ι2 b = some l → (HH (j + 1)).size ≤ b → (∃ l', ι b = some l') ∧ K2.get b = K.get b)
    (haway : ∀ b, b < (HH j).size → ι b = none → (HH (j + 1)).get b = (HH j).get b) (hnew : ∀ b l, ι2 b = some l → ι b = none → (HH j).size ≤ b ∧ b < (HH (j + 1)).size)
    (hA : AA (j + 1) = aput (AA j) o.dst v) (hv : RV ι2 v v') : ∃ p', Inv E ops AA HH ι0 w0 a0 ι2 K2 p' (listed.setIfInBounds j true) (a.put o.dst v') w2 := by
  have hj : j < listed.size := by rw [I.size]; exact get_lt N.at'
  have hjn := get_lt N.at'
  have hup : ∀ {b l}, ι2 b = some l → ι b = none ∨ ∃ l', ι b = some l' := fun {b l} h => by cases ι b <;> simp
  -- it is the next one
  have hMM : ∀ {i oi}, ops[i]? = some oi → isM oi.op = true → i < j → isIn listed i := fun {i oi} hi hMi hij => by
    cases hb : bef (befs ops.toList []) i j with
    | true => exact before_done c I N hi hb
    | false => exact absurd ⟨hMi, hM⟩ (drawOk_pair c.ok hi N.at' hij hb).2
  have hMM' : ∀ {i oi}, ops[i]? = some oi → isM oi.op = true → j < i → ¬ isIn listed i := fun {i oi} hi hMi hij => by
    cases hb : bef (befs ops.toList []) j i with
    | true => exact after_undone c I N hi hb
    | false => exact absurd ⟨hM, hMi⟩ (drawOk_pair c.ok N.at' hi hij hb).2
  have hpj : p ≤ j := by
    rcases Nat.lt_or_ge j p with h | h
    · exact absurd ((I.prog j o N.at' hM).2 h) N.not
    · exact h
  -- no other lies between
  have hgap : ∀ i oi, ops[i]? = some oi → p ≤ i → i < j → isM oi.op = false := fun i oi hi h1 h2 => by
    cases hMi : isM oi.op with
    | false => rfl
    | true => have := (I.prog i oi hi hMi).1 (hMM hi hMi h2); omega
  obtain ⟨p', hp1, hp2, hp3, hp4⟩ : ∃ p', j < p' ∧ p' ≤ ops.size ∧ (∀ i oi, ops[i]? = some oi → j < i → i < p' → isM oi.op = false) ∧ (p' = ops.size ∨ ∃ oi, ops[p']? = some oi ∧ isM oi.op = true) := by
    have : ∀ m k, k + m = ops.size → j < k → (∀ i oi, ops[i]? = some oi → j < i → i < k → isM oi.op = false) →
        ∃ p', j < p' ∧ p' ≤ ops.size ∧ (∀ i oi, ops[i]? = some oi → j < i → i < p' → isM oi.op = false) ∧ (p' = ops.size ∨ ∃ oi, ops[p']? = some oi ∧ isM oi.op = true) := by
      intro m
      induction m with
      | zero => intro k hk hjk hno; exact ⟨k, hjk, by omega, hno, .inl (by omega)⟩
      | succ m ih =>
        intro k hk hjk hno
        obtain ⟨ok, hok⟩ := lt_get (ops := ops) (show k < ops.size by omega)
        cases hMk : isM ok.op with
        | true => exact ⟨k, hjk, by omega, hno, .inr ⟨ok, hok, hMk⟩⟩
        | false =>
          refine ih (k + 1) (by omega) (by omega) fun i oi hi h1 h2 => ?_
          by_cases hik : i = k
          · subst hik; rw [hok] at hi; injection hi with hi; subst hi; exact hMk
          · exact hno i oi hi h1 (by omega)
    exact this (ops.size - (j + 1)) (j + 1) (by omega) (by omega) fun i oi hi h1 h2 => by omega
  have hkeep : ∀ {x b}, j < x → x ≤ p' → b < (HH x).size → (HH p').get b = (HH x).get b := fun {x b} h1 h2 h3 =>
    c.keep_range h2 hp2 h3 fun k ok hk h4 h5 => hp3 k ok hk (by omega) h5
  have hkeep0 : ∀ {x b}, p ≤ x → x ≤ j → b < (HH x).size → (HH j).get b = (HH x).get b := fun {x b} h1 h2 h3 =>
    c.keep_range h2 (Nat.le_of_lt hjn) h3 fun k ok hk h4 h5 => hgap k ok hk (by omega) h5
  refine ⟨p', by simp [I.size], closed_next c I N, hp2, ?_, hR, hS, by rw [hz, I.ksz], ?_, ?_, ?_, ?_, ?_, ?_, ?_⟩
  · intro i oi hi hMi
    rw [isIn_set hj]
    constructor
    · rintro (rfl | h)
      · exact hp1
      · have := (I.prog i oi hi hMi).1 h; omega
    · intro hip
      rcases Nat.lt_trichotomy i j with h | h | h
      · exact .inr (hMM hi hMi h)
      · exact .inl h
      · have := hp3 i oi hi h hip; rw [hMi] at this; cases this
  · intro b l hb
    rcases hup hb with h | ⟨l', h⟩
    · obtain ⟨h1, h2⟩ := hnew b l hb h
      exact .inr ⟨j, hjn, (isIn_set hj).2 (.inl rfl), h1, h2⟩
    · rcases I.dom b l' h with h | ⟨i, h3, h4, h5⟩
      · exact .inl h
      · exact .inr ⟨i, h3, (isIn_set hj).2 (.inr h4), h5⟩
  · intro b l hb hbp
    rcases Nat.lt_or_ge b (HH (j + 1)).size with h | h
    · rw [hlow b l hb h, hkeep (by omega) (by omega) h]
    · obtain ⟨⟨l', h1⟩, h2⟩ := hhigh b l hb h
      rw [h2]
      rcases I.dom b l' h1 with h3 | ⟨i, h3, h4, h5, h6⟩
      · have := c.size_le (i := 0) (j := j + 1) (by omega) (by omega); omega
      · have hji : j < i := by
          rcases Nat.lt_or_ge j i with h7 | h7
          · exact h7
          · have := c.size_le (i := i + 1) (j := j + 1) (by omega) (by omega); omega
        have hip : i < p' := by
          rcases Nat.lt_or_ge i p' with h7 | h7
          · exact h7
          · have := c.size_le (i := p') (j := i) (by omega) (by omega); omega
        rw [I.c2 i b l' (by omega) h3 h4 h1 h5 h6, hkeep (by omega) (by omega) h6]
  · intro i b l hpi hi hin hb h1 h2
    have h3 : (HH (j + 1)).size ≤ b := by have := c.size_le (i := j + 1) (j := i) (by omega) (by omega); omega
    obtain ⟨⟨l', h4⟩, h5⟩ := hhigh b l hb h3
    rw [h5]
    rcases (isIn_set hj).1 hin with rfl | hin
    · omega
    · exact I.c2 i b l' (by omega) hi hin h4 h1 h2
  · intro i oi b hip hi hMi hin h1 h2
    have hin' : ¬ isIn listed i := fun h => hin ((isIn_set hj).2 (.inr h))
    have hij : i ≠ j := fun h => hin ((isIn_set hj).2 (.inl h))
    rcases Nat.lt_or_ge i j with h | h
    · have hb' : ι b = none := by
        cases hx : ι b with
        | none => rfl
        | some l =>
          rcases I.dom b l hx with h3 | ⟨i', h3, h4, h5, h6⟩
          · have := c.size_le (i := 0) (j := i) (by omega) (by omega); omega
          · have := c.birth h3 (get_lt hi) h5 h6 h1 h2
            subst this; exact absurd h4 hin'
      have hbj : b < (HH j).size := Nat.lt_of_lt_of_le h2 (c.size_le (by omega) (by omega))
      have e1 : (HH j).get b = (HH (i + 1)).get b := by
        rcases Nat.lt_or_ge i p with h3 | h3
        · have h4 := I.c3 i oi b h3 hi hMi hin' h1 h2
          rw [hkeep0 (x := p) (by omega) hpj (Nat.lt_of_lt_of_le h2 (c.size_le (by omega) I.le)), h4]
        · exact hkeep0 (by omega) (by omega) h2
      rw [hkeep (x := j + 1) (by omega) (by omega) (Nat.lt_of_lt_of_le hbj (c.size_le (by omega) (by omega))), haway b hbj hb', e1]
    · exact hkeep (by omega) (by omega) h2
  · rw [AbsYtlmcjfnignbdoaa.put_defers]; exact I.defers
  · rw [← I.len]; cases o.dst <;> simp [Act.put]
  · exact fun t u hu => tmps_next c I N hle hA hv t u hu

end
end
end AbsYtlmcjfnignbdoaa
