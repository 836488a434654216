/-
  Guards, slices, calls of builtin functions, for the simplifier.
-/
import Derived.Test.YtlmcjfnignbdoaaAW3
namespace AbsYtlmcjfnignbdoaa
set_option linter.unusedVariables false
set_option linter.unusedSimpArgs false
set_option linter.unusedSectionVars false
open Go
section
variable {E : Env} {A : List Value} {H : AHeap} {all : Array Oper} {l : List Oper} {K : List Value → AHeap → Prop}

/-- what a guard has been told -/
def yieldL : List Oper → Nat → List Value → Option Bool
  | [], _, _ => none
  | o :: _, 0, A => match o.dst with
    | some t => match A[t]? with
      | some (.bool b) => some b
      | _ => none
    | none => none
  | _ :: l, g + 1, A => yieldL l g A
theorem yield_list (l : List Oper) (A : List Value) (g : Nat) : ayield l.toArray A g = yieldL l g A := by
  induction l generalizing g with
  | nil => simp [ayield, yieldL]
  | cons o l ih =>
    cases g with
    | zero =>
      simp only [ayield, yieldL, List.getElem?_toArray, List.getElem?_cons_zero, Option.bind_some]
      cases hd : o.dst with
      | none => simp
      | some t =>
        simp only [Option.bind_some]
        cases A[t]? with
        | none => rfl
        | some v => cases v <;> rfl
    | succ g => rw [yieldL, ← ih g]; simp [ayield]
/-- a temporary's truth -/
def truth : Value → Option Bool
  | .bool b => some b
  | _ => none
theorem yield_here {n : Nat} {f : Nat → Value} {t : Nat} {op : Op} {ty : TypeId} {pos : String} {after : Array Edge} {g : Option (Nat × Bool)} : yieldL (⟨some t, op, ty, pos, after, g⟩ :: l) 0 (L n f) = if t < n then truth (f t) else none := by
  simp only [yieldL]
  by_cases h : t < n
  · rw [L_get h, if_pos h]; cases f t <;> rfl
  · rw [if_neg h, List.getElem?_eq_none (by rw [L_length]; omega)]
theorem yield_next {o : Oper} {g : Nat} : yieldL (o :: l) (g + 1) A = yieldL l g A := rfl
theorem truth_bool {b : Bool} : truth (.bool b) = some b := rfl
/-- an operation behind a guard -/
def guardC (E : Env) (y : Option Bool) (b : Bool) (op : Op) (all : Array Oper) (dst : Option Tmp) (l : List Oper) (A : List Value) (H : AHeap) (K : List Value → AHeap → Prop) : Prop :=
  if y == some b then afterOp E (aop E A H op) H (opK E all dst l A K) else OpsW E all l (aput A dst undef) H K
theorem O_guardC {dst : Option Tmp} {op : Op} {ty : TypeId} {pos : String} {after : Array Edge} {g : Nat} {b : Bool} : OpsW E all (⟨dst, op, ty, pos, after, some (g, b)⟩ :: l) A H K ↔ guardC E (ayield all A g) b op all dst l A H K := O_guard
theorem G_true {op : Op} {dst : Option Tmp} {b : Bool} : guardC E (some b) b op all dst l A H K ↔ afterOp E (aop E A H op) H (opK E all dst l A K) := by simp [guardC]
theorem G_tf {op : Op} {dst : Option Tmp} : guardC E (some true) false op all dst l A H K ↔ OpsW E all l (aput A dst undef) H K := by simp [guardC]
theorem G_ft {op : Op} {dst : Option Tmp} : guardC E (some false) true op all dst l A H K ↔ OpsW E all l (aput A dst undef) H K := by simp [guardC]
theorem G_dec_true {c : Prop} [Decidable c] {op : Op} {dst : Option Tmp} : guardC E (some (decide c)) true op all dst l A H K ↔ (c → afterOp E (aop E A H op) H (opK E all dst l A K)) ∧ (¬ c → OpsW E all l (aput A dst undef) H K) := by
  by_cases h : c <;> simp [guardC, h]
theorem G_dec_false {c : Prop} [Decidable c] {op : Op} {dst : Option Tmp} : guardC E (some (decide c)) false op all dst l A H K ↔ (¬ c → afterOp E (aop E A H op) H (opK E all dst l A K)) ∧ (c → OpsW E all l (aput A dst undef) H K) := by
  by_cases h : c <;> simp [guardC, h]

/-- elements of a slice: how many, and their cells -/
structure SliceAt (H : AHeap) (sz : Nat) (v : Value) (n : Nat) (cs : List Value) : Prop where
  len : cs.length = n * sz
  at' : (v = .slice none 0 0 ∧ n = 0) ∨ ∃ b o c ex all wr, v = .slice (some ⟨b, o, ex⟩) n c ∧ H.get b = .cells all wr sz ∧ o + n * sz ≤ all.length ∧ cs = (all.drop o).take (n * sz) ∧ b < H.size

theorem SliceAt.alen {sz n : Nat} {v : Value} {cs : List Value} (h : SliceAt H sz v n cs) {t : Nat} {ts : List Nat} {e : Nat} {a b : Nat} {z : Option (List ZV)} {q : Bool} (ht : E.ty.get t = some ⟨.slice e, a, b, z, q⟩) :
    abuiltin E H .len (t :: ts) [v] = some (goInt n, H) := by
  rcases h.at' with ⟨rfl, rfl⟩ | ⟨b, o, c, ex, all, wr, rfl, _⟩
  · simp [abuiltin, ht]
  · simp [abuiltin, ht]
theorem SliceAt.load {sz n : Nat} {v : Value} {cs : List Value} (h : SliceAt H sz v n cs) {t e : Nat} {j : TI} {a b : Nat} {z : Option (List ZV)} {q : Bool} (ht : E.ty.get t = some ⟨.slice e, a, b, z, q⟩) (he : E.ty.get e = some j) (hj : j.size = sz) (hsz : 0 < sz)
    {k : IntKind} {i : Int} (h0 : 0 ≤ i) (hi : i < n) : ∃ p, aindexAddr E t v (.int k i) = some p ∧ aload E H e p = if j.isAgg then some (.agg ((cs.drop (i.toNat * sz)).take sz).toArray) else cs[i.toNat * sz]? := by
  rcases h.at' with ⟨rfl, rfl⟩ | ⟨b, o, c, ex, all, wr, rfl, hg, hfit, rfl, _⟩
  · omega
  · have hin : i.toNat < n := by omega
    have hle : i.toNat * sz + sz ≤ n * sz := by rw [← Nat.succ_mul]; exact Nat.mul_le_mul_right _ hin
    refine ⟨.pointer (some ⟨b, o + i.toNat * j.size, none⟩), by simp [aindexAddr, ht, he, h0, hi], ?_⟩
    subst hj
    simp only [aload, hg, he]
    split
    · rw [if_pos (by omega)]
      congr 3
      rw [List.drop_take, List.drop_drop, List.take_take]
      congr 1; omega
    · rw [List.getElem?_take, if_pos (by omega), List.getElem?_drop]
/-- a region that draws, nothing floating -/
theorem W_draw0 {id : Nat} {ops : Array Oper} {Q : AExit → List Value → AHeap → Prop} (hf : floatPairs ops = []) : CodeW E (.region id ops true) A H Q ↔ OpsW E ops ops.toList A H (Q .normal) := by
  refine ⟨fun ⟨k, e, A', H', h, hq⟩ => ?_, w_draw0 hf⟩
  cases k with
  | zero => cases h
  | succ k =>
    simp only [exec, if_true, Option.map_eq_some_iff, Prod.mk.injEq] at h
    obtain ⟨⟨A1, H1⟩, h1, rfl, rfl, rfl⟩ := h
    unfold runDraw at h1
    split at h1
    · rename_i tr htr
      rw [hf] at h1
      simp only [List.all_nil, if_true] at h1
      refine ⟨k, A1, H1, ?_, hq⟩
      have : ∀ {l : List Oper} {A : List Value} {H : AHeap} {tr : List (List Value × AHeap)} {p : List Value × AHeap}, runTr E (callF E (exec E k)) ops l A H = some tr → tr.getLast? = some p → runOps E (callF E (exec E k)) ops l A H = some p := by
        intro l
        induction l with
        | nil => intro A H tr p h hp; simp only [runTr, Option.some.injEq] at h; subst h; simp at hp; simp [runOps, hp]
        | cons o l ih2 =>
          intro A H tr p h hp
          simp only [runTr] at h
          split at h
          · rename_i A2 H2 h2
            simp only [Option.map_eq_some_iff] at h
            obtain ⟨tr1, h3, h4⟩ := h
            subst h4
            have hl := (runTr_spec _ _ _ _ h3).1
            have : tr1.getLast? = some p := by
              cases tr1 with
              | nil => simp at hl
              | cons q qs => simpa [List.getLast?_cons_cons] using hp
            simp only [runOps, h2]; exact ih2 h3 this
          · cases h
      exact this htr h1
    · cases h1
/-! memory, explicitly -/
theorem ia_slice {t e : Nat} {j : TI} {a b : Nat} {z : Option (List ZV)} {q : Bool} (ht : E.ty.get t = some ⟨.slice e, a, b, z, q⟩) (he : E.ty.get e = some j) {B o n c : Nat} {ex : Option Nat} {k : IntKind} {i : Nat} (hi : i < n) :
    aindexAddr E t (.slice (some ⟨B, o, ex⟩) n c) (.int k i) = some (.pointer (some ⟨B, o + i * j.size, none⟩)) := by
  simp [aindexAddr, ht, he, hi]
theorem ld_cell {t : Nat} {i : TI} (ht : E.ty.get t = some i) (ha : i.isAgg = false) {b o : Nat} {xs : List Value} {wr : Bool} {sz : Nat} (hg : H.get b = .cells xs wr sz) : aload E H t (.pointer (some ⟨b, o, none⟩)) = xs[o]? := by
  simp [aload, ht, hg, ha]
theorem ld_agg {t : Nat} {i : TI} (ht : E.ty.get t = some i) (ha : i.isAgg = true) {b o : Nat} {xs : List Value} {wr : Bool} {sz : Nat} (hg : H.get b = .cells xs wr sz) (hl : o + i.size ≤ xs.length) : aload E H t (.pointer (some ⟨b, o, none⟩)) = some (.agg ((xs.drop o).take i.size).toArray) := by
  simp [aload, ht, hg, ha, hl]
theorem len_str {t : Nat} {ts : List Nat} {a b : Nat} {z : Option (List ZV)} {q : Bool} (ht : E.ty.get t = some ⟨.string, a, b, z, q⟩) {s : ByteArray} : abuiltin E H .len (t :: ts) [.string s] = some (goInt s.size, H) := by
  simp [abuiltin, ht]
theorem nil_slice {t : Nat} {i : TI} {e : Nat} (ht : E.ty.get t = some i) (hk : i.k = .slice e) {cs : Bool} {a : Option Addr} {n c : Nat} : abin E H .eql t cs (.slice a n c) (.slice none 0 0) = some (.bool a.isNone) := by
  cases a with
  | none => simp [abin, nonNum, eqAsk, aeq, ht, hk]
  | some a => simp [abin, nonNum, eqAsk, aeq, ht, hk]
/-- a heap that holds more -/
structure Ext (H H' : AHeap) : Prop where
  size : H.size ≤ H'.size
  get : ∀ b, b < H.size → H'.get b = H.get b
theorem Ext.refl (H : AHeap) : Ext H H := ⟨Nat.le_refl _, fun _ _ => rfl⟩
theorem Ext.trans {H H1 H2 : AHeap} (h : Ext H H1) (k : Ext H1 H2) : Ext H H2 := ⟨Nat.le_trans h.size k.size, fun b hb => by rw [k.get b (Nat.lt_of_lt_of_le hb h.size), h.get b hb]⟩
theorem Ext.alloc (H : AHeap) (o : AObj) : Ext H (H.alloc o) := ⟨Nat.le_succ _, fun b hb => AHeap.get_alloc_ne _ _ (by omega)⟩
theorem SliceAt.ext {H H' : AHeap} {sz n : Nat} {v : Value} {cs : List Value} (h : SliceAt H sz v n cs) (e : Ext H H') : SliceAt H' sz v n cs := by
  refine ⟨h.len, ?_⟩
  rcases h.at' with h1 | ⟨b, o, c, ex, all, wr, h1, h2, h3, h4, h5⟩
  · exact .inl h1
  · exact .inr ⟨b, o, c, ex, all, wr, h1, by rw [e.get b h5]; exact h2, h3, h4, Nat.lt_of_lt_of_le h5 e.size⟩
theorem get_alloc (H : AHeap) (o : AObj) (b : Nat) : (H.alloc o).get b = if b = H.size then o else H.get b := by
  split
  · rename_i h; subst h; exact AHeap.get_alloc_same _ _
  · rename_i h; exact AHeap.get_alloc_ne _ _ (fun e => h e.symm)
theorem get_set (H : AHeap) (c : Nat) (o : AObj) (b : Nat) : (H.set c o).get b = if b = c then o else H.get b := by
  split
  · rename_i h; subst h; exact AHeap.get_set_same _ _ _
  · rename_i h; exact AHeap.get_set_ne _ _ (fun e => h e.symm)
theorem res_cell1 {n : Nat} {f : Nat → Value} {a t : Nat} : results E (L n f) H [.cell a t] = (aload E H t (if a < n then f a else undef)).map fun v => [v] := by
  have e : (L n f).getD a undef = if a < n then f a else undef := aev_tmp (t := a)
  simp only [results, e]
  cases aload E H t (if a < n then f a else undef) <;> rfl
theorem bytes_dec (a b : ByteArray) : (a == b) = decide (a = b) := by
  cases a with | mk x => cases b with | mk y =>
  show ByteArray.beq ⟨x⟩ ⟨y⟩ = _
  simp [ByteArray.beq]
  rw [Bool.eq_iff_iff]; simp
end
end AbsYtlmcjfnignbdoaa
