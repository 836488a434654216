/-
  Code without what does not matter.
-/
import Derived.Test.YtlmcjfnignbdoaaAW4
namespace AbsYtlmcjfnignbdoaa
set_option linter.unusedVariables false
set_option linter.unusedSimpArgs false
set_option linter.unusedSectionVars false
open Go

def bareOp (o : Oper) : Oper := { o with pos := "", type := 0, after := #[] }
def lessOp (o : Oper) : Oper := { o with pos := "", type := 0 }
def norm : Code → Code
  | .seq a b => .seq (norm a) (norm b)
  | .cond x a b => .cond x (norm a) (norm b)
  | .block id c => .block id (norm c)
  | .loop c => .loop (norm c)
  | .scope c => norm c
  | .region _ ops draw => if draw && !(floatPairs ops).isEmpty then .region 0 (ops.toList.map lessOp).toArray true else .region 0 (ops.toList.map bareOp).toArray false
  | c => c

section
variable {E : Env}

theorem yield_map {g : Oper → Oper} (hd : ∀ o, (g o).dst = o.dst) (all : Array Oper) (A : List Value) (j : Nat) : ayield (all.toList.map g).toArray A j = ayield all A j := by
  simp only [ayield, List.getElem?_toArray, List.getElem?_map, Array.getElem?_toList]
  cases all[j]? with
  | none => simp
  | some o => simp [hd]
theorem runOp_map {g : Oper → Oper} (hd : ∀ o, (g o).dst = o.dst ∧ (g o).op = o.op ∧ (g o).guard = o.guard) (call : Call) (all : Array Oper) (o : Oper) (A : List Value) (H : AHeap) :
    runOp E call (all.toList.map g).toArray (g o) A H = runOp E call all o A H := by
  have hw : Region.wanted (g o) (ayield (all.toList.map g).toArray A) = Region.wanted o (ayield all A) := by
    simp only [Region.wanted, (hd o).2.2]
    split
    · rfl
    · rw [yield_map fun o => (hd o).1]
  simp only [runOp, hw, (hd o).1, (hd o).2.1]
theorem runOps_map {g : Oper → Oper} (hd : ∀ o, (g o).dst = o.dst ∧ (g o).op = o.op ∧ (g o).guard = o.guard) (call : Call) (all : Array Oper) : ∀ (l : List Oper) (A : List Value) (H : AHeap),
    runOps E call (all.toList.map g).toArray (l.map g) A H = runOps E call all l A H
  | [], A, H => rfl
  | o :: l, A, H => by
    simp only [List.map_cons, runOps, runOp_map hd]
    split
    · exact runOps_map hd call all l _ _
    · rfl
theorem runTr_map {g : Oper → Oper} (hd : ∀ o, (g o).dst = o.dst ∧ (g o).op = o.op ∧ (g o).guard = o.guard) (call : Call) (all : Array Oper) : ∀ (l : List Oper) (A : List Value) (H : AHeap),
    runTr E call (all.toList.map g).toArray (l.map g) A H = runTr E call all l A H
  | [], A, H => rfl
  | o :: l, A, H => by
    simp only [List.map_cons, runTr, runOp_map hd]
    split
    · rw [runTr_map hd call all l]
    · rfl
theorem befs_map (g : Oper → Oper) (ha : ∀ o, (g o).after = o.after) : ∀ (l : List Oper) (acc : List Nat), befs (l.map g) acc = befs l acc
  | [], acc => rfl
  | o :: l, acc => by simp only [List.map_cons, befs, ha]; exact befs_map g ha l _
theorem zipIdx_map' {α β : Type} (g : α → β) : ∀ (l : List α) (k : Nat), (l.map g).zipIdx k = (l.zipIdx k).map fun p => (g p.1, p.2)
  | [], k => rfl
  | a :: l, k => by simp [zipIdx_map' g l]
theorem floatPairs_less (ops : Array Oper) : floatPairs (ops.toList.map lessOp).toArray = floatPairs ops := by
  simp only [floatPairs, befs_map lessOp (fun _ => rfl), zipIdx_map', List.filter_map, List.flatMap_map, List.map_map]
  rfl
theorem floatOk_less (ops : Array Oper) (tr : List (List Value × AHeap)) (p : Nat × Nat) : floatOk (ops.toList.map lessOp).toArray tr p = floatOk ops tr p := by
  simp only [floatOk, List.getElem?_toArray, List.getElem?_map, Array.getElem?_toList]
  cases hp : ops[p.1]? with
  | none => cases tr[p.1]? <;> rfl
  | some o =>
    simp only [Option.map_some]
    cases tr[p.1]? with
    | none => rfl
    | some q =>
      cases tr[p.2]? with
      | none => rfl
      | some q2 =>
        cases tr[p.2 + 1]? with
        | none => rfl
        | some q3 =>
          have hw : Region.wanted (lessOp o) (ayield (ops.toList.map lessOp).toArray q.1) = Region.wanted o (ayield ops q.1) := by
            simp only [Region.wanted, lessOp]
            split
            · rfl
            · rw [yield_map (g := lessOp) fun o => rfl]
          simp only [hw]; rfl
theorem runDraw_less (call : Call) (ops : Array Oper) (A : List Value) (H : AHeap) : runDraw E call (ops.toList.map lessOp).toArray A H = runDraw E call ops A H := by
  have h := runTr_map (E := E) (g := lessOp) (fun o => ⟨rfl, rfl, rfl⟩) call ops ops.toList A H
  simp only [runDraw]
  rw [h]
  split
  · rename_i tr _
    have : (floatPairs (ops.toList.map lessOp).toArray).all (floatOk (ops.toList.map lessOp).toArray tr) = (floatPairs ops).all (floatOk ops tr) := by
      rw [floatPairs_less]; congr 1; funext p; exact floatOk_less ops tr p
    rw [this]
  · rfl
theorem runDraw_bare (call : Call) (ops : Array Oper) (hf : floatPairs ops = []) (A : List Value) (H : AHeap) : runDraw E call ops A H = runOps E call ops ops.toList A H := by
  have key : ∀ (l : List Oper) (A : List Value) (H : AHeap), (runTr E call ops l A H).bind (·.getLast?) = runOps E call ops l A H := by
    intro l
    induction l with
    | nil => intro A H; rfl
    | cons o l ih =>
      intro A H
      simp only [runTr, runOps]
      split
      · rename_i A1 H1 _
        rw [← ih A1 H1]
        cases hx : runTr E call ops l A1 H1 with
        | none => rfl
        | some tr =>
          simp only [Option.map_some, Option.bind_some]
          cases tr with
          | nil => have := (runTr_spec _ _ _ _ hx).1; simp at this
          | cons q qs => simp [List.getLast?_cons_cons]
      · rfl
  rw [← key]
  simp only [runDraw, hf, List.all_nil, if_true]
  cases runTr E call ops ops.toList A H <;> rfl

theorem norm_sim : ∀ (c : Code) {Q : AExit → List Value → AHeap → Prop} {A : List Value} {H : AHeap}, CodeW E (norm c) A H Q → CodeW E c A H Q
  | .seq a b, Q, A, H, h => by
    simp only [norm] at h
    refine W_seq.2 ((norm_sim a (W_seq.1 h)).mono fun e A' H' hq => ?_)
    cases e with
    | normal => exact norm_sim b hq
    | exit id => exact hq
    | ret => exact hq
  | .cond x a b, Q, A, H, h => by
    simp only [norm] at h
    have h := W_cond.1 h
    refine W_cond.2 ?_
    cases hx : aev A x <;> rw [hx] at h <;> first | exact h.elim | exact ⟨fun e => norm_sim a (h.1 e), fun e => norm_sim b (h.2 e)⟩
  | .block id c, Q, A, H, h => by
    simp only [norm] at h
    exact W_block.2 (norm_sim c (W_block.1 h))
  | .scope c, Q, A, H, h => by
    simp only [norm] at h
    exact W_scope.2 (norm_sim c h)
  | .loop c, Q, A, H, h => by
    simp only [norm] at h
    obtain ⟨k, e, A', H', h1, h2⟩ := h
    have : ∀ (k : Nat) (A : List Value) (H : AHeap), exec E k (.loop (norm c)) A H = some (e, A', H') → CodeW E (.loop c) A H Q := by
      intro k
      induction k with
      | zero => intro A H h; cases h
      | succ k ih =>
        intro A H h
        simp only [exec] at h
        split at h
        · rename_i A1 H1 h3
          have hn : CodeW E (norm c) A H fun e A H => e = AExit.normal ∧ A = A1 ∧ H = H1 := ⟨k, _, _, _, h3, rfl, rfl, rfl⟩
          refine w_loop ((norm_sim c hn).mono fun e2 A2 H2 hq => ?_)
          obtain ⟨rfl, rfl, rfl⟩ := hq
          exact ih _ _ h
        · rename_i hno
          refine w_loop (norm_sim c ⟨k, _, _, _, h, ?_⟩)
          cases e with
          | normal => exact (hno _ _ h).elim
          | exit id => exact h2
          | ret => exact h2
    exact this k A H h1
  | .region id ops draw, Q, A, H, h => by
    simp only [norm] at h
    obtain ⟨k, e, A', H', h1, h2⟩ := h
    cases k with
    | zero => split at h1 <;> cases h1
    | succ k =>
      refine ⟨k + 1, e, A', H', ?_, h2⟩
      split at h1
      · rename_i hd
        simp only [Bool.and_eq_true] at hd
        simp only [exec, if_true] at h1
        simp only [exec, hd.1, if_true]
        rw [runDraw_less] at h1
        exact h1
      · rename_i hd
        simp only [exec, Bool.false_eq_true, if_false] at h1
        have hm := runOps_map (E := E) (g := bareOp) (fun o => ⟨rfl, rfl, rfl⟩) (callF E (exec E k)) ops ops.toList A H
        have h1 : (runOps E (callF E (exec E k)) (ops.toList.map bareOp).toArray (ops.toList.map bareOp) A H).map (fun p => (AExit.normal, p.1, p.2)) = some (e, A', H') := h1
        rw [hm] at h1
        cases draw with
        | false => simpa only [exec, Bool.false_eq_true, if_false] using h1
        | true =>
          have hf : floatPairs ops = [] := by simpa using hd
          simp only [exec, if_true, runDraw_bare _ _ hf]
          exact h1
  | .skip, Q, A, H, h => h
  | .exit id, Q, A, H, h => h
  | .ret, Q, A, H, h => h
  | .label l, Q, A, H, h => h
  | .goto l, Q, A, H, h => h
  | .refuse w, Q, A, H, h => h
  | .rangeFunc .., Q, A, H, h => h

/-- a function's body, bare -/
theorem W_callN {H : AHeap} {f : Nat} {args : List Value} {fn : Func} {c d : Code} {n : Nat} {rs : List ResultVar} {Q : Value → AHeap → Prop} (hs : E.sp f = none) (hf : E.fn.get f = some fn) (hb : fn.body = some c) (hn : fn.ntmps = n) (hr : fn.results.toList = rs)
    (hd : norm c = d) (hl : args.length ≤ n) (h : CodeW E d (L n (ofL args)) H (retQ E rs Q)) : CallW E f args H Q :=
  (W_call hs hf hb hn hr hl).2 (norm_sim c (by rw [hd]; exact h))
end

/-- among these regions? -/
def keepN : List Nat → Nat → Bool
  | [], _ => false
  | a :: l, b => if a = b then true else keepN l b
/-- bare code: the regions of the list alone draw -/
def strip (fl : List Nat) : Code → Code
  | .seq a b => .seq (strip fl a) (strip fl b)
  | .cond x a b => .cond x (strip fl a) (strip fl b)
  | .block id c => .block id (strip fl c)
  | .loop c => .loop (strip fl c)
  | .scope c => strip fl c
  | .region id ops _ => if keepN fl id then .region 0 (ops.toList.map lessOp).toArray true else .region 0 (ops.toList.map bareOp).toArray false
  | c => c
def bodyOf (fn : Func) : Code := fn.body.getD .skip
theorem bareOp_mk {d : Option Tmp} {op : Op} {ty : TypeId} {pos : String} {after : Array Edge} {g : Option (Nat × Bool)} : bareOp ⟨d, op, ty, pos, after, g⟩ = ⟨d, op, 0, "", #[], g⟩ := rfl
theorem lessOp_mk {d : Option Tmp} {op : Op} {ty : TypeId} {pos : String} {after : Array Edge} {g : Option (Nat × Bool)} : lessOp ⟨d, op, ty, pos, after, g⟩ = ⟨d, op, 0, "", after, g⟩ := rfl
theorem lapp_cons {α : Type} {a : α} {l m : List α} : List.append (a :: l) m = a :: List.append l m := rfl
theorem lapp_nil {α : Type} {m : List α} : List.append [] m = m := rfl
theorem getD_body {c : Code} : (some c).getD .skip = c := rfl
/-- a function's body, bare, as the program holds it -/
theorem W_callS {E : Env} {H : AHeap} {f : Nat} {args : List Value} {fn : Func} {n : Nat} {rs : List ResultVar} {Q : Value → AHeap → Prop} (fl : List Nat) (hs : E.sp f = none) (hf : E.fn.get f = some fn) (hb : fn.body = some (bodyOf fn)) (hn : fn.ntmps = n) (hr : fn.results.toList = rs)
    (hd : norm (bodyOf fn) = strip fl (bodyOf fn)) (hl : args.length ≤ n) (h : CodeW E (strip fl (bodyOf fn)) (L n (ofL args)) H (retQ E rs Q)) : CallW E f args H Q :=
  W_callN hs hf hb hn hr hd hl h
end AbsYtlmcjfnignbdoaa
