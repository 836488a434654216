/-
  Which operations come before which, and what the check of a region says.
-/
import Derived.Test.YtlmcjfnignbdoaaADraw2
namespace AbsYtlmcjfnignbdoaa
set_option linter.unusedVariables false
set_option linter.unusedSimpArgs false
set_option linter.unusedSectionVars false
open Go

/-! ### equality as the program decides it -/
mutual
theorem veq_eq : ∀ (x y : Value), veq x y = true → x = y
  | .bool a, y, h => by cases y <;> simp [veq] at h ⊢; exact h
  | .int k a, y, h => by cases y <;> simp [veq] at h ⊢; exact h
  | .float k a, y, h => by cases y <;> simp [veq] at h ⊢; exact h
  | .complex k a c, y, h => by cases y <;> simp [veq] at h ⊢; exact ⟨h.1.1, h.1.2, h.2⟩
  | .string a, y, h => by
    cases y <;> simp [veq] at h ⊢
    rename_i b
    cases a with | mk a => cases b with | mk b => simpa using h
  | .pointer a, y, h => by cases y <;> simp [veq] at h ⊢; exact h
  | .slice a n c, y, h => by cases y <;> simp [veq] at h ⊢; exact ⟨h.1.1, h.1.2, h.2⟩
  | .map a, y, h => by cases y <;> simp [veq] at h ⊢; exact h
  | .chan a, y, h => by cases y <;> simp [veq] at h ⊢; exact h
  | .func f xs ys, y, h => by
    cases y <;> simp [veq] at h ⊢
    exact ⟨h.1.1, veqA_eq _ _ h.1.2, veqA_eq _ _ h.2⟩
  | .nilFunc, y, h => by cases y <;> simp [veq] at h ⊢
  | .iface t x, y, h => by
    cases y <;> simp [veq] at h ⊢
    exact ⟨h.1, veq_eq _ _ h.2⟩
  | .nilIface, y, h => by cases y <;> simp [veq] at h ⊢
  | .agg xs, y, h => by
    cases y <;> simp [veq] at h ⊢
    exact veqA_eq _ _ h
  | .tuple xs, y, h => by
    cases y <;> simp [veq] at h ⊢
    exact veqA_eq _ _ h
theorem veqA_eq : ∀ (x y : Array Value), veqA x y = true → x = y
  | ⟨xs⟩, ⟨ys⟩, h => by rw [veqA] at h; rw [veqL_eq xs ys h]
theorem veqL_eq : ∀ (x y : List Value), veqL x y = true → x = y
  | [], y, h => by cases y <;> simp [veqL] at h ⊢
  | x :: xs, y, h => by
    cases y <;> simp [veqL] at h ⊢
    exact ⟨veq_eq _ _ h.1, veqL_eq _ _ h.2⟩
end
theorem meq_eq {a b : MapEntry} (h : meq a b = true) : a = b := by
  cases a; cases b; simp [meq] at h
  obtain ⟨⟨h1, h2⟩, h3⟩ := h
  rw [veq_eq _ _ h1, veq_eq _ _ h2, h3]
theorem meqL_eq : ∀ (x y : List MapEntry), meqL x y = true → x = y
  | [], y, h => by cases y <;> simp [meqL] at h ⊢
  | x :: xs, y, h => by
    cases y <;> simp [meqL] at h ⊢
    exact ⟨meq_eq h.1, meqL_eq _ _ h.2⟩
theorem oeq_eq {a b : AObj} (h : oeq a b = true) : a = b := by
  cases a <;> cases b <;> simp [oeq] at h ⊢
  · exact ⟨veqL_eq _ _ h.2, h.1.1, h.1.2⟩
  · exact ⟨meqL_eq _ _ h.2, h.1⟩

/-- is it the same block, to one who looks so far -/
def same (weak : Bool) (x y : AObj) : Prop := if weak then oszeq x y = true else x = y
theorem same.rfl (weak : Bool) (x : AObj) : same weak x x := by cases weak <;> simp [same, oszeq_refl]
theorem same.trans {weak : Bool} {x y z : AObj} (h : same weak x y) (h' : same weak y z) : same weak x z := by
  cases weak <;> simp [same] at *
  · exact h.trans h'
  · exact oszeq_trans h h'
theorem same.symm {weak : Bool} {x y : AObj} (h : same weak x y) : same weak y x := by
  cases weak <;> simp [same] at *
  · exact h.symm
  · exact oszeq_symm h

/-! ### before -/
theorem edgeMask_bit (acc : List Nat) (i : Nat) : ∀ (es : List Edge) (s : Nat), (edgeMask acc es s).testBit i = true →
    s.testBit i = true ∨ ∃ e ∈ es, Region.binds .any e = true ∧ (i = e.on ∨ (acc.getD e.on 0).testBit i = true)
  | [], s, h => .inl h
  | e :: es, s, h => by
    simp only [edgeMask] at h
    rcases edgeMask_bit acc i es _ h with h | ⟨e', h1, h2⟩
    · split at h
      · rename_i hb
        simp only [Nat.testBit_or, Bool.or_eq_true, Nat.testBit_two_pow, decide_eq_true_eq] at h
        rcases h with (h | h) | h
        · exact .inl h
        · exact .inr ⟨e, by simp, hb, .inl h.symm⟩
        · exact .inr ⟨e, by simp, hb, .inr h⟩
      · exact .inl h
    · exact .inr ⟨e', by simp [h1], h2⟩

theorem befs_all {ops : List Oper} {Good : Nat → Nat → Prop} (hz : ∀ k, Good k 0)
    (hg : ∀ (k : Nat) (o : Oper) (acc : List Nat), ops[k]? = some o → acc.length = k → (∀ j, Good j (acc.getD j 0)) → Good k (edgeMask acc o.after.toList 0)) :
    ∀ (l : List Oper) (acc : List Nat), (∀ j, l[j]? = ops[acc.length + j]?) → (∀ j, Good j (acc.getD j 0)) → ∀ j, Good j ((befs l acc).getD j 0)
  | [], acc, _, ha, j => ha j
  | o :: l, acc, hl, ha, j => by
    simp only [befs]
    refine befs_all hz hg l _ (fun j => ?_) (fun j => ?_) j
    · have := hl (j + 1)
      simp only [List.getElem?_cons_succ] at this
      rw [this]; congr 1; simp; omega
    · by_cases hj : j < acc.length
      · have := ha j
        simpa [List.getD, List.getElem?_append_left hj] using this
      · by_cases hj' : j = acc.length
        · subst hj'
          have := hg acc.length o acc (by have := hl 0; simpa using this.symm) rfl ha
          simpa [List.getD] using this
        · have : (acc ++ [edgeMask acc o.after.toList 0]).getD j 0 = 0 := by
            simp only [List.getD]
            rw [List.getElem?_eq_none (by simp; omega)]; rfl
          rw [this]; exact hz j

def isIn (listed : Array Bool) (i : Nat) : Prop := listed.getD i false = true

/-- all that an operation waits for is done -/
def closedUnder (ops : Array Oper) (S : Nat → Prop) : Prop := ∀ i o, S i → ops[i]? = some o → ∀ e ∈ o.after, Region.binds .any e = true → S e.on

theorem bef_in {ops : Array Oper} {S : Nat → Prop} (hS : closedUnder ops S) {i j : Nat} {o : Oper} (hb : bef (befs ops.toList []) i j = true) (ho : ops[j]? = some o)
    (hj : ∀ e ∈ o.after, Region.binds .any e = true → S e.on) : S i := by
  have key := befs_all (ops := ops.toList) (Good := fun k m => (∀ o, ops[k]? = some o → ∀ e ∈ o.after, Region.binds .any e = true → S e.on) → ∀ i, m.testBit i = true → S i)
    (fun k _ i h => by simp at h) (fun k o acc ho hl ha hd i hi => by
      have ho' : ops[k]? = some o := by simpa using ho
      rcases edgeMask_bit acc i o.after.toList 0 hi with h | ⟨e, h1, h2, h3⟩
      · simp at h
      · have he : S e.on := hd o ho' e (by simpa using h1) h2
        rcases h3 with h3 | h3
        · rw [h3]; exact he
        · exact ha e.on (fun o' ho' e' he' hb' => hS _ _ he ho' e' he' hb') i h3) ops.toList [] (by simp) (by simp) j
  exact key (fun o' ho' => by rw [ho] at ho'; injection ho' with ho'; subst ho'; exact hj) i hb

theorem bef_lt {ops : Array Oper} (hlow : ∀ k o, ops[k]? = some o → ∀ e ∈ o.after, Region.binds .any e = true → e.on < k) {i j : Nat} (hb : bef (befs ops.toList []) i j = true) : i < j := by
  have key := befs_all (ops := ops.toList) (Good := fun k m => ∀ i, m.testBit i = true → i < k)
    (fun k i h => by simp at h) (fun k o acc ho hl ha i hi => by
      have ho' : ops[k]? = some o := by simpa using ho
      rcases edgeMask_bit acc i o.after.toList 0 hi with h | ⟨e, h1, h2, h3⟩
      · simp at h
      · have he := hlow k o ho' e (by simpa using h1) h2
        rcases h3 with h3 | h3
        · omega
        · have := ha e.on i h3; omega) ops.toList [] (by simp) (by simp) j
  exact key i hb

/-! ### the check of a region that draws its order -/
def drawOk (ops : Array Oper) : Bool :=
  let b := befs ops.toList []
  let l := ops.toList.zipIdx
  l.all fun q => q.1.after.toList.all (fun e => !Region.binds .any e || Nat.blt e.on q.2) &&
    l.all fun p => !Nat.blt p.2 q.2 || bef b p.2 q.2 || (p.1.apart ops q.1 && !(isM p.1.op && isM q.1.op))

theorem zipIdx_mem {ops : Array Oper} {k : Nat} {o : Oper} (h : ops[k]? = some o) : (o, k) ∈ ops.toList.zipIdx :=
  List.mem_iff_getElem?.2 ⟨k, by simp [List.getElem?_zipIdx, h]⟩

theorem drawOk_low {ops : Array Oper} (h : drawOk ops = true) (k : Nat) (o : Oper) (ho : ops[k]? = some o) (e : Edge) (he : e ∈ o.after) (hb : Region.binds .any e = true) : e.on < k := by
  simp only [drawOk, List.all_eq_true, Bool.and_eq_true] at h
  have := (h _ (zipIdx_mem ho)).1 e (by simpa using he)
  simpa [hb, Nat.blt_eq] using this
theorem drawOk_pair {ops : Array Oper} (h : drawOk ops = true) {i j : Nat} {oi oj : Oper} (hi : ops[i]? = some oi) (hj : ops[j]? = some oj) (hij : i < j) (hb : bef (befs ops.toList []) i j = false) :
    oi.apart ops oj = true ∧ ¬ (isM oi.op = true ∧ isM oj.op = true) := by
  simp only [drawOk, List.all_eq_true, Bool.and_eq_true] at h
  have := (h _ (zipIdx_mem hj)).2 _ (zipIdx_mem hi)
  have hlt : Nat.blt i j = true := by simpa [Nat.blt_eq] using hij
  simp only [hlt, hb, Bool.not_true, Bool.false_or, Bool.and_eq_true, Bool.not_eq_true', Bool.and_eq_false_iff] at this
  refine ⟨this.1, fun hm => ?_⟩
  rcases this.2 with h1 | h1
  · rw [hm.1] at h1; cases h1
  · rw [hm.2] at h1; cases h1

end AbsYtlmcjfnignbdoaa
