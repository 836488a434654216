/-
  Parts of a law's proof.
-/
import Derived.Test.YtkhcbbpfchgemaaDoorAUtqfJ
namespace Go.Proofs.YtkhcbbpfchgemaaDoor.AbsB
open Go AbsYtkhcbbpfchgemaaDoor Abs
set_option maxRecDepth 100000
set_option maxHeartbeats 4000000
set_option linter.unusedSimpArgs false
set_option linter.unusedVariables false
def varW (n : Int) : ByteArray ⊕ (Nat × Nat) := if n < 0 ∨ 268435455 < n then .inr (4,0) else .inl (str (enc n.toNat))
def binW (s : ByteArray) : ByteArray ⊕ (Nat × Nat) := if 65535 < s.size then .inr (4,0) else .inl (numB s.size 2 ++ s)
def textW (s : ByteArray) : ByteArray ⊕ (Nat × Nat) := match textF s with
 | .inr (k,p) => .inr (k + 1,2 + p)
 | .inl _ => binW s
theorem textF_p {s : ByteArray} {k p : Nat} (h : textF s = .inr (k,p)) : p ≤ s.size := by
 unfold textF at h
 split at h
 ·injection h with h; injection h with h1 h2; omega
 ·split at h
  ·injection h with h; injection h with h1 h2; omega
  ·cases h
section
variable {σ : AHeap} {w : Nat} {a s : ByteArray} {fp : List Nat} {n : Int} {Q : Value → AHeap → Prop}
theorem specCheck (hs : s.size ≤ 100000) (hok : ∀ m,textF s = .inl m → Q .nilIface σ) (hbad : ∀ k p,textF s = .inr (k,p) → Q (fv 129 (p : Int) (sent (k + 1))) σ) : CallS E B 69 [.string s] σ Q :=
 of_W (P := fun r => match textF s with | .inl n => r = .nilIface | .inr (k,p) => r = fv 129 (p : Int) (sent (k + 1)))
  (fun H hB => (spec69 hB hs).mono fun r H' ⟨h1,h2⟩ => ⟨h1,h2⟩)
  fun r h => by
   split at h
   ·rename_i m hm; rw [h]; exact hok m hm
   ·rename_i k p hm; rw [h]; exact hbad k p hm
end
structure Act where
 k : Int
 n : Int
 s : ByteArray
def actW (a : Act) : ByteArray ⊕ (Nat × Nat) := if a.k = 1 then numW a.n 1 else if a.k = 2 then numW a.n 2 else if a.k = 4 then numW a.n 4 else if a.k = 5 then varW a.n else if a.k = 6 then textW a.s else if a.k = 7 then binW a.s else if a.k = 8 then .inl a.s else .inl emp
section
variable {σ : AHeap} {w : Nat} {b : ByteArray} {a : Act} {fp : List Nat} {Q : Value → AHeap → Prop}
end
theorem chunks {α : Type} {enc : α → List Value} {sz : Nat} (hsz : ∀ a,(enc a).length = sz) : ∀ (n : Nat) (cs : List Value),cs.length = n * sz → (∀ k,k < n → ∃ a,(cs.drop (k * sz)).take sz = enc a) → ∃ l : List α,l.length = n ∧ cs = l.flatMap enc
 | 0,cs,hl,_ => ⟨[],rfl,by rw [Nat.zero_mul] at hl; exact List.eq_nil_of_length_eq_zero hl⟩
 | n + 1,cs,hl,h => by
  obtain ⟨a,ha⟩ := h 0 (by omega)
  rw [Nat.zero_mul,List.drop_zero] at ha
  obtain ⟨l,h1,h2⟩ := chunks hsz n (cs.drop sz) (by rw [List.length_drop,hl,Nat.succ_mul]; omega) (fun k hk => by
   obtain ⟨b,hb⟩ := h (k + 1) (by omega)
   refine ⟨b,?_⟩
   rw [← hb,List.drop_drop,Nat.succ_mul,Nat.add_comm])
  exact ⟨a :: l,by simp [h1],by rw [List.flatMap_cons,← ha,← h2,List.take_append_drop]⟩
def DL {α : Type} (enc : α → List Value) (sz : Nat) (v : Value) (l : List α) : Prop := (l = [] ∧ v = .slice none 0 0) ∨ ∃ m,v = dsl m sz l.length (l.flatMap enc)
def IsR (σ : AHeap) (r : Nat) (s : ByteArray) (p : Nat) (e : Value) : Prop := σ.get r = .cells [.string s,.int .i64 (p : Int),e] true 0
abbrev Rd (α : Type) := Except (Nat × Nat) (α × Nat)
def rawR (s : ByteArray) (p : Nat) (n : Int) : Rd ByteArray := if n < 0 then .error (4,p) else if s.size < p + n.toNat then .error (1,s.size) else .ok (s.extract p (p + n.toNat),p + n.toNat)
def RBad (σ : AHeap) (r : Nat) (s : ByteArray) (p k q : Nat) : Prop := ∃ d z,d ≤ 2 ∧ ErN d (fv 129 (q : Int) z) k ∧ IsR σ r s p (fv 129 (q : Int) z)
section
variable {σ : AHeap} {r p : Nat} {s : ByteArray} {Q : Value → AHeap → Prop}
theorem specRNew {Q : Value → AHeap → Prop} (h : ∀ r σ',σ.get r = .dead → Kept σ [] σ' [r] → IsR σ' r s 0 .nilIface → Q (.pointer (some ⟨r,0,none⟩)) σ') : CallS E B 15 [.string s] σ Q := by
 refine call15 (by simp) ?_
 simp only [strip,bodyOf,Tryd.f15,getD_body,keepN,bareOp_mk,lessOp_mk,lapp_cons,lapp_nil,List.map_cons,List.map_nil,array_toList,↓reduceIte,Nat.reduceEqDiff,Bool.false_eq_true]
 simp (disch := first | assumption | simp) only [↓sbD,sbU,tyB,Nat.reduceMul,Nat.reduceSub,Int.reduceEq,Int.reduceLT,Int.reduceLE,Int.reduceNe,Nat.reduceBneDiff,Nat.reduceBEq,decide_false,gt_iff_lt,Bool.or_self,Bool.false_eq_true,Nat.mul_one,Nat.one_mul,Nat.zero_mul,↓reduceIte,Nat.reduceEqDiff,Nat.reduceLT,Nat.reduceAdd,Nat.reduceLeDiff,reduceCtorEq,goInt,pairs,isConst,TI.isAgg,splice,boxS,Edp,dpv,Nat.beq_eq,ZV.val,List.any_cons,List.any_nil,Bool.false_and,AS_new]
 intro r hr
 simp (disch := first | assumption | simp) only [↓sbD,sbU,tyB,Nat.reduceMul,Nat.reduceSub,Int.reduceEq,Int.reduceLT,Int.reduceLE,Int.reduceNe,Nat.reduceBneDiff,Nat.reduceBEq,decide_false,gt_iff_lt,Bool.or_self,Bool.false_eq_true,Nat.mul_one,Nat.one_mul,Nat.zero_mul,↓reduceIte,Nat.reduceEqDiff,Nat.reduceLT,Nat.reduceAdd,Nat.reduceLeDiff,reduceCtorEq,goInt,pairs,isConst,TI.isAgg,splice,boxS,Edp,dpv,Nat.beq_eq,ZV.val,List.any_cons,List.any_nil,Bool.false_and]
 exact downS_here (h r _ hr (Kept.new' hr) (AHeap.get_set_same _ _ _))
theorem specROff (hr : IsR σ r s p .nilIface) (h : Q (.bool false) σ) : CallS E B 43 [.pointer (some ⟨r,0,none⟩)] σ Q := by
 unfold IsR at hr
 refine call43 (by simp) ?_
 simp only [strip,bodyOf,Tryd.f43,getD_body,keepN,bareOp_mk,lessOp_mk,lapp_cons,lapp_nil,List.map_cons,List.map_nil,array_toList,↓reduceIte,Nat.reduceEqDiff,Bool.false_eq_true]
 simp (disch := first | assumption | simp) only [↓sbD,sbU,tyB,Nat.reduceMul,Nat.reduceSub,Int.reduceEq,Int.reduceLT,Int.reduceLE,Int.reduceNe,Nat.reduceBneDiff,Nat.reduceBEq,decide_false,gt_iff_lt,Bool.or_self,Bool.false_eq_true,Nat.mul_one,Nat.one_mul,Nat.zero_mul,↓reduceIte,Nat.reduceEqDiff,Nat.reduceLT,Nat.reduceAdd,Nat.reduceLeDiff,reduceCtorEq,goInt,pairs,isConst,TI.isAgg,splice,boxS,Edp,dpv,Nat.beq_eq,ZV.val,List.any_cons,List.any_nil,Bool.false_and,hr]
 exact downS_here h
theorem specROffE {u : Nat} {x : Value} (hr : IsR σ r s p (.iface u x)) (h : Q (.bool true) σ) : CallS E B 43 [.pointer (some ⟨r,0,none⟩)] σ Q := by
 unfold IsR at hr
 refine call43 (by simp) ?_
 simp only [strip,bodyOf,Tryd.f43,getD_body,keepN,bareOp_mk,lessOp_mk,lapp_cons,lapp_nil,List.map_cons,List.map_nil,array_toList,↓reduceIte,Nat.reduceEqDiff,Bool.false_eq_true]
 simp (disch := first | assumption | simp) only [↓sbD,sbU,tyB,Nat.reduceMul,Nat.reduceSub,Int.reduceEq,Int.reduceLT,Int.reduceLE,Int.reduceNe,Nat.reduceBneDiff,Nat.reduceBEq,decide_false,gt_iff_lt,Bool.or_self,Bool.false_eq_true,Nat.mul_one,Nat.one_mul,Nat.zero_mul,↓reduceIte,Nat.reduceEqDiff,Nat.reduceLT,Nat.reduceAdd,Nat.reduceLeDiff,reduceCtorEq,goInt,pairs,isConst,TI.isAgg,splice,boxS,Edp,dpv,Nat.beq_eq,ZV.val,List.any_cons,List.any_nil,Bool.false_and,hr]
 exact downS_here h
theorem specRErr {e : Value} (hr : IsR σ r s p e) (h : Q e σ) : CallS E B 36 [.pointer (some ⟨r,0,none⟩)] σ Q := by
 unfold IsR at hr
 refine call36 (by simp) ?_
 simp only [strip,bodyOf,Tryd.f36,getD_body,keepN,bareOp_mk,lessOp_mk,lapp_cons,lapp_nil,List.map_cons,List.map_nil,array_toList,↓reduceIte,Nat.reduceEqDiff,Bool.false_eq_true]
 simp (disch := first | assumption | simp) only [↓sbD,sbU,tyB,Nat.reduceMul,Nat.reduceSub,Int.reduceEq,Int.reduceLT,Int.reduceLE,Int.reduceNe,Nat.reduceBneDiff,Nat.reduceBEq,decide_false,gt_iff_lt,Bool.or_self,Bool.false_eq_true,Nat.mul_one,Nat.one_mul,Nat.zero_mul,↓reduceIte,Nat.reduceEqDiff,Nat.reduceLT,Nat.reduceAdd,Nat.reduceLeDiff,reduceCtorEq,goInt,pairs,isConst,TI.isAgg,splice,boxS,Edp,dpv,Nat.beq_eq,ZV.val,List.any_cons,List.any_nil,Bool.false_and,hr]
 exact downS_here h
theorem specRAt {e : Value} (hr : IsR σ r s p e) (h : Q (.int .i64 (p : Int)) σ) : CallS E B 31 [.pointer (some ⟨r,0,none⟩)] σ Q := by
 unfold IsR at hr
 refine call31 (by simp) ?_
 simp only [strip,bodyOf,Tryd.f31,getD_body,keepN,bareOp_mk,lessOp_mk,lapp_cons,lapp_nil,List.map_cons,List.map_nil,array_toList,↓reduceIte,Nat.reduceEqDiff,Bool.false_eq_true]
 simp (disch := first | assumption | simp) only [↓sbD,sbU,tyB,Nat.reduceMul,Nat.reduceSub,Int.reduceEq,Int.reduceLT,Int.reduceLE,Int.reduceNe,Nat.reduceBneDiff,Nat.reduceBEq,decide_false,gt_iff_lt,Bool.or_self,Bool.false_eq_true,Nat.mul_one,Nat.one_mul,Nat.zero_mul,↓reduceIte,Nat.reduceEqDiff,Nat.reduceLT,Nat.reduceAdd,Nat.reduceLeDiff,reduceCtorEq,goInt,pairs,isConst,TI.isAgg,splice,boxS,Edp,dpv,Nat.beq_eq,ZV.val,List.any_cons,List.any_nil,Bool.false_and,hr]
 exact downS_here h
theorem specRLeft {e : Value} (hr : IsR σ r s p e) (hp : p ≤ s.size) (hs : s.size ≤ 1000000000) (h : Q (.int .i64 ((s.size - p : Nat) : Int)) σ) : CallS E B 37 [.pointer (some ⟨r,0,none⟩)] σ Q := by
 unfold IsR at hr
 have hw : IntKind.i64.wrap ((s.size : Int) - (p : Int)) = ((s.size - p : Nat) : Int) := by rw [wrap64 ⟨by omega,by omega⟩]; omega
 refine call37 (by simp) ?_
 simp only [strip,bodyOf,Tryd.f37,getD_body,keepN,bareOp_mk,lessOp_mk,lapp_cons,lapp_nil,List.map_cons,List.map_nil,array_toList,↓reduceIte,Nat.reduceEqDiff,Bool.false_eq_true]
 simp (disch := first | assumption | simp) only [↓sbD,sbU,tyB,Nat.reduceMul,Nat.reduceSub,Int.reduceEq,Int.reduceLT,Int.reduceLE,Int.reduceNe,Nat.reduceBneDiff,Nat.reduceBEq,decide_false,gt_iff_lt,Bool.or_self,Bool.false_eq_true,Nat.mul_one,Nat.one_mul,Nat.zero_mul,↓reduceIte,Nat.reduceEqDiff,Nat.reduceLT,Nat.reduceAdd,Nat.reduceLeDiff,reduceCtorEq,goInt,pairs,isConst,TI.isAgg,splice,boxS,Edp,dpv,Nat.beq_eq,ZV.val,List.any_cons,List.any_nil,Bool.false_and,hr,hw]
 exact downS_here h
theorem specRDone (hr : IsR σ r s p .nilIface) (hp : p ≤ s.size) (hs : s.size ≤ 1000000000) (hend : p = s.size → Q .nilIface σ) (hmore : p < s.size → Q (fv 129 (p : Int) (sent 2)) σ) : CallS E B 20 [.pointer (some ⟨r,0,none⟩)] σ Q := by
 have hr' := hr
 unfold IsR at hr'
 refine call20 (by simp) ?_
 simp only [strip,bodyOf,Tryd.f20,getD_body,keepN,bareOp_mk,lessOp_mk,lapp_cons,lapp_nil,List.map_cons,List.map_nil,array_toList,↓reduceIte,Nat.reduceEqDiff,Bool.false_eq_true]
 simp (disch := first | assumption | simp) only [↓sbD,sbU,tyB,Nat.reduceMul,Nat.reduceSub,Int.reduceEq,Int.reduceLT,Int.reduceLE,Int.reduceNe,Nat.reduceBneDiff,Nat.reduceBEq,decide_false,gt_iff_lt,Bool.or_self,Bool.false_eq_true,Nat.mul_one,Nat.one_mul,Nat.zero_mul,↓reduceIte,Nat.reduceEqDiff,Nat.reduceLT,Nat.reduceAdd,Nat.reduceLeDiff,reduceCtorEq,goInt,pairs,isConst,TI.isAgg,splice,boxS,Edp,dpv,Nat.beq_eq,ZV.val,List.any_cons,List.any_nil,Bool.false_and]
 refine specRErr hr ?_
 simp (disch := first | assumption | simp) only [↓sbD,sbU,tyB,Nat.reduceMul,Nat.reduceSub,Int.reduceEq,Int.reduceLT,Int.reduceLE,Int.reduceNe,Nat.reduceBneDiff,Nat.reduceBEq,decide_false,gt_iff_lt,Bool.or_self,Bool.false_eq_true,Nat.mul_one,Nat.one_mul,Nat.zero_mul,↓reduceIte,Nat.reduceEqDiff,Nat.reduceLT,Nat.reduceAdd,Nat.reduceLeDiff,reduceCtorEq,goInt,pairs,isConst,TI.isAgg,splice,boxS,Edp,dpv,Nat.beq_eq,ZV.val,List.any_cons,List.any_nil,Bool.false_and]
 refine specRLeft hr hp hs ?_
 by_cases h0 : (0 : Int) < ((s.size - p : Nat) : Int)
 ·simp (disch := first | assumption | simp) only [↓sbD,sbU,tyB,Nat.reduceMul,Nat.reduceSub,Int.reduceEq,Int.reduceLT,Int.reduceLE,Int.reduceNe,Nat.reduceBneDiff,Nat.reduceBEq,decide_false,gt_iff_lt,Bool.or_self,Bool.false_eq_true,Nat.mul_one,Nat.one_mul,Nat.zero_mul,↓reduceIte,Nat.reduceEqDiff,Nat.reduceLT,Nat.reduceAdd,Nat.reduceLeDiff,reduceCtorEq,goInt,pairs,isConst,TI.isAgg,splice,boxS,Edp,dpv,Nat.beq_eq,ZV.val,List.any_cons,List.any_nil,Bool.false_and,h0,hr',gk2]
  refine specNew (n := 2) ⟨by omega,by omega⟩ ?_
  simp (disch := first | assumption | simp) only [↓sbD,sbU,tyB,Nat.reduceMul,Nat.reduceSub,Int.reduceEq,Int.reduceLT,Int.reduceLE,Int.reduceNe,Nat.reduceBneDiff,Nat.reduceBEq,decide_false,gt_iff_lt,Bool.or_self,Bool.false_eq_true,Nat.mul_one,Nat.one_mul,Nat.zero_mul,↓reduceIte,Nat.reduceEqDiff,Nat.reduceLT,Nat.reduceAdd,Nat.reduceLeDiff,reduceCtorEq,goInt,pairs,isConst,TI.isAgg,splice,boxS,Edp,dpv,Nat.beq_eq,ZV.val,List.any_cons,List.any_nil,Bool.false_and]
  exact downS_here (hmore (by omega))
 ·simp (disch := first | assumption | simp) only [↓sbD,sbU,tyB,Nat.reduceMul,Nat.reduceSub,Int.reduceEq,Int.reduceLT,Int.reduceLE,Int.reduceNe,Nat.reduceBneDiff,Nat.reduceBEq,decide_false,gt_iff_lt,Bool.or_self,Bool.false_eq_true,Nat.mul_one,Nat.one_mul,Nat.zero_mul,↓reduceIte,Nat.reduceEqDiff,Nat.reduceLT,Nat.reduceAdd,Nat.reduceLeDiff,reduceCtorEq,goInt,pairs,isConst,TI.isAgg,splice,boxS,Edp,dpv,Nat.beq_eq,ZV.val,List.any_cons,List.any_nil,Bool.false_and,h0]
  refine specRErr hr ?_
  simp (disch := first | assumption | simp) only [↓sbD,sbU,tyB,Nat.reduceMul,Nat.reduceSub,Int.reduceEq,Int.reduceLT,Int.reduceLE,Int.reduceNe,Nat.reduceBneDiff,Nat.reduceBEq,decide_false,gt_iff_lt,Bool.or_self,Bool.false_eq_true,Nat.mul_one,Nat.one_mul,Nat.zero_mul,↓reduceIte,Nat.reduceEqDiff,Nat.reduceLT,Nat.reduceAdd,Nat.reduceLeDiff,reduceCtorEq,goInt,pairs,isConst,TI.isAgg,splice,boxS,Edp,dpv,Nat.beq_eq,ZV.val,List.any_cons,List.any_nil,Bool.false_and]
  exact downS_here (hend (by omega))
theorem specRDoneE {u : Nat} {x : Value} (hr : IsR σ r s p (.iface u x)) (h : Q (.iface u x) σ) : CallS E B 20 [.pointer (some ⟨r,0,none⟩)] σ Q := by
 refine call20 (by simp) ?_
 simp only [strip,bodyOf,Tryd.f20,getD_body,keepN,bareOp_mk,lessOp_mk,lapp_cons,lapp_nil,List.map_cons,List.map_nil,array_toList,↓reduceIte,Nat.reduceEqDiff,Bool.false_eq_true]
 simp (disch := first | assumption | simp) only [↓sbD,sbU,tyB,Nat.reduceMul,Nat.reduceSub,Int.reduceEq,Int.reduceLT,Int.reduceLE,Int.reduceNe,Nat.reduceBneDiff,Nat.reduceBEq,decide_false,gt_iff_lt,Bool.or_self,Bool.false_eq_true,Nat.mul_one,Nat.one_mul,Nat.zero_mul,↓reduceIte,Nat.reduceEqDiff,Nat.reduceLT,Nat.reduceAdd,Nat.reduceLeDiff,reduceCtorEq,goInt,pairs,isConst,TI.isAgg,splice,boxS,Edp,dpv,Nat.beq_eq,ZV.val,List.any_cons,List.any_nil,Bool.false_and]
 refine specRErr hr ?_
 simp (disch := first | assumption | simp) only [↓sbD,sbU,tyB,Nat.reduceMul,Nat.reduceSub,Int.reduceEq,Int.reduceLT,Int.reduceLE,Int.reduceNe,Nat.reduceBneDiff,Nat.reduceBEq,decide_false,gt_iff_lt,Bool.or_self,Bool.false_eq_true,Nat.mul_one,Nat.one_mul,Nat.zero_mul,↓reduceIte,Nat.reduceEqDiff,Nat.reduceLT,Nat.reduceAdd,Nat.reduceLeDiff,reduceCtorEq,goInt,pairs,isConst,TI.isAgg,splice,boxS,Edp,dpv,Nat.beq_eq,ZV.val,List.any_cons,List.any_nil,Bool.false_and]
 refine specRErr hr ?_
 simp (disch := first | assumption | simp) only [↓sbD,sbU,tyB,Nat.reduceMul,Nat.reduceSub,Int.reduceEq,Int.reduceLT,Int.reduceLE,Int.reduceNe,Nat.reduceBneDiff,Nat.reduceBEq,decide_false,gt_iff_lt,Bool.or_self,Bool.false_eq_true,Nat.mul_one,Nat.one_mul,Nat.zero_mul,↓reduceIte,Nat.reduceEqDiff,Nat.reduceLT,Nat.reduceAdd,Nat.reduceLeDiff,reduceCtorEq,goInt,pairs,isConst,TI.isAgg,splice,boxS,Edp,dpv,Nat.beq_eq,ZV.val,List.any_cons,List.any_nil,Bool.false_and]
 exact downS_here h
theorem specBack (hr : IsR σ r s p .nilIface) {q : Int} (h : Q unit σ) : CallS E B 34 [.pointer (some ⟨r,0,none⟩),.int .i64 q] σ Q := by
 unfold IsR at hr
 refine call34 (by simp) ?_
 simp only [strip,bodyOf,Tryd.f34,getD_body,keepN,bareOp_mk,lessOp_mk,lapp_cons,lapp_nil,List.map_cons,List.map_nil,array_toList,↓reduceIte,Nat.reduceEqDiff,Bool.false_eq_true]
 simp (disch := first | assumption | simp) only [↓sbD,sbU,tyB,Nat.reduceMul,Nat.reduceSub,Int.reduceEq,Int.reduceLT,Int.reduceLE,Int.reduceNe,Nat.reduceBneDiff,Nat.reduceBEq,decide_false,gt_iff_lt,Bool.or_self,Bool.false_eq_true,Nat.mul_one,Nat.one_mul,Nat.zero_mul,↓reduceIte,Nat.reduceEqDiff,Nat.reduceLT,Nat.reduceAdd,Nat.reduceLeDiff,reduceCtorEq,goInt,pairs,isConst,TI.isAgg,splice,boxS,Edp,dpv,Nat.beq_eq,ZV.val,List.any_cons,List.any_nil,Bool.false_and,hr]
 exact downS_here h
theorem specBackE {u q : Nat} {x : Value} (hr : IsR σ r s p (.iface u x)) (h : ∀ σ',Kept σ [r] σ' [r] → IsR σ' r s q (.iface u x) → Q unit σ') : CallS E B 34 [.pointer (some ⟨r,0,none⟩),.int .i64 (q : Int)] σ Q := by
 unfold IsR at hr
 refine call34 (by simp) ?_
 simp only [strip,bodyOf,Tryd.f34,getD_body,keepN,bareOp_mk,lessOp_mk,lapp_cons,lapp_nil,List.map_cons,List.map_nil,array_toList,↓reduceIte,Nat.reduceEqDiff,Bool.false_eq_true]
 simp (disch := first | assumption | simp) only [↓sbD,sbU,tyB,Nat.reduceMul,Nat.reduceSub,Int.reduceEq,Int.reduceLT,Int.reduceLE,Int.reduceNe,Nat.reduceBneDiff,Nat.reduceBEq,decide_false,gt_iff_lt,Bool.or_self,Bool.false_eq_true,Nat.mul_one,Nat.one_mul,Nat.zero_mul,↓reduceIte,Nat.reduceEqDiff,Nat.reduceLT,Nat.reduceAdd,Nat.reduceLeDiff,reduceCtorEq,goInt,pairs,isConst,TI.isAgg,splice,boxS,Edp,dpv,Nat.beq_eq,ZV.val,List.any_cons,List.any_nil,Bool.false_and,hr]
 exact downS_here (h _ (Kept.set (by simp)) (AHeap.get_set_same _ _ _))
theorem slice_str {t : Nat} {a b z q} (ht : E.ty.get t = some ⟨.string,a,b,z,q⟩) {s : ByteArray} {lo hi : Nat} (h1 : lo ≤ hi) (h2 : hi ≤ s.size) : aslice E σ t (.string s) (some (.int .i64 (lo : Int))) (some (.int .i64 (hi : Int))) none = some (.string (s.extract lo hi)) := by
 have c1 : (0 : Int) ≤ (hi : Int) := by omega
 have c2 : (0 : Int) ≤ (lo : Int) := by omega
 simp [aslice,ht,abound,h1,h2]
theorem slice_from {t : Nat} {a b z q} (ht : E.ty.get t = some ⟨.string,a,b,z,q⟩) {s : ByteArray} {lo : Nat} (h1 : lo ≤ s.size) : aslice E σ t (.string s) (some (.int .i64 (lo : Int))) none none = some (.string (s.extract lo s.size)) := by
 simp [aslice,ht,abound,h1]
theorem specRRaw {n : Int} (hr : IsR σ r s p .nilIface) (hp : p ≤ s.size) (hs : s.size ≤ 1000000000)
  (hok : ∀ v q,rawR s p n = .ok (v,q) → ∀ σ',Kept σ [r] σ' [r] → IsR σ' r s q .nilIface → Q (.string v) σ')
  (hbad : ∀ k q,rawR s p n = .error (k,q) → ∀ σ',Kept σ [r] σ' [r] → RBad σ' r s p k q → Q (.string emp) σ') : CallS E B 32 [.pointer (some ⟨r,0,none⟩),.int .i64 n] σ Q := by
 have hr' := hr
 unfold IsR at hr'
 have hw : IntKind.i64.wrap ((s.size : Int) - (p : Int)) = (s.size : Int) - (p : Int) := wrap64 ⟨by omega,by omega⟩
 refine call32 (by simp) ?_
 simp only [strip,bodyOf,Tryd.f32,getD_body,keepN,bareOp_mk,lessOp_mk,lapp_cons,lapp_nil,List.map_cons,List.map_nil,array_toList,↓reduceIte,Nat.reduceEqDiff,Bool.false_eq_true]
 simp (disch := first | assumption | simp) only [↓sbD,sbU,tyB,Nat.reduceMul,Nat.reduceSub,Int.reduceEq,Int.reduceLT,Int.reduceLE,Int.reduceNe,Nat.reduceBneDiff,Nat.reduceBEq,decide_false,gt_iff_lt,Bool.or_self,Bool.false_eq_true,Nat.mul_one,Nat.one_mul,Nat.zero_mul,↓reduceIte,Nat.reduceEqDiff,Nat.reduceLT,Nat.reduceAdd,Nat.reduceLeDiff,reduceCtorEq,goInt,pairs,isConst,TI.isAgg,splice,boxS,Edp,dpv,Nat.beq_eq,ZV.val,List.any_cons,List.any_nil,Bool.false_and]
 refine specROff hr ?_
 by_cases h0 : n < 0
 ·simp (disch := first | assumption | simp) only [↓sbD,sbU,tyB,Nat.reduceMul,Nat.reduceSub,Int.reduceEq,Int.reduceLT,Int.reduceLE,Int.reduceNe,Nat.reduceBneDiff,Nat.reduceBEq,decide_false,gt_iff_lt,Bool.or_self,Bool.false_eq_true,Nat.mul_one,Nat.one_mul,Nat.zero_mul,↓reduceIte,Nat.reduceEqDiff,Nat.reduceLT,Nat.reduceAdd,Nat.reduceLeDiff,reduceCtorEq,goInt,pairs,isConst,TI.isAgg,splice,boxS,Edp,dpv,Nat.beq_eq,ZV.val,List.any_cons,List.any_nil,Bool.false_and,h0,hr',gk4]
  refine specNew (n := 4) ⟨by omega,by omega⟩ ?_
  simp (disch := first | assumption | simp) only [↓sbD,sbU,tyB,Nat.reduceMul,Nat.reduceSub,Int.reduceEq,Int.reduceLT,Int.reduceLE,Int.reduceNe,Nat.reduceBneDiff,Nat.reduceBEq,decide_false,gt_iff_lt,Bool.or_self,Bool.false_eq_true,Nat.mul_one,Nat.one_mul,Nat.zero_mul,↓reduceIte,Nat.reduceEqDiff,Nat.reduceLT,Nat.reduceAdd,Nat.reduceLeDiff,reduceCtorEq,goInt,pairs,isConst,TI.isAgg,splice,boxS,Edp,dpv,Nat.beq_eq,ZV.val,List.any_cons,List.any_nil,Bool.false_and,hr']
  refine downS_here (hbad 4 p (by unfold rawR; rw [if_pos h0]) _ (Kept.set (by simp)) ⟨1,_,by omega,ErN.new _ _ ⟨by omega,by omega⟩,AHeap.get_set_same _ _ _⟩)
 ·by_cases h1 : (s.size : Int) - (p : Int) < n
  ·simp (disch := first | assumption | simp) only [↓sbD,sbU,tyB,Nat.reduceMul,Nat.reduceSub,Int.reduceEq,Int.reduceLT,Int.reduceLE,Int.reduceNe,Nat.reduceBneDiff,Nat.reduceBEq,decide_false,gt_iff_lt,Bool.or_self,Bool.false_eq_true,Nat.mul_one,Nat.one_mul,Nat.zero_mul,↓reduceIte,Nat.reduceEqDiff,Nat.reduceLT,Nat.reduceAdd,Nat.reduceLeDiff,reduceCtorEq,goInt,pairs,isConst,TI.isAgg,splice,boxS,Edp,dpv,Nat.beq_eq,ZV.val,List.any_cons,List.any_nil,Bool.false_and,h0,hr',hw,h1,gk1]
   refine specNew (n := 1) ⟨by omega,by omega⟩ ?_
   simp (disch := first | assumption | simp) only [↓sbD,sbU,tyB,Nat.reduceMul,Nat.reduceSub,Int.reduceEq,Int.reduceLT,Int.reduceLE,Int.reduceNe,Nat.reduceBneDiff,Nat.reduceBEq,decide_false,gt_iff_lt,Bool.or_self,Bool.false_eq_true,Nat.mul_one,Nat.one_mul,Nat.zero_mul,↓reduceIte,Nat.reduceEqDiff,Nat.reduceLT,Nat.reduceAdd,Nat.reduceLeDiff,reduceCtorEq,goInt,pairs,isConst,TI.isAgg,splice,boxS,Edp,dpv,Nat.beq_eq,ZV.val,List.any_cons,List.any_nil,Bool.false_and,hr']
   refine downS_here (hbad 1 s.size (by unfold rawR; rw [if_neg h0,if_pos (by omega)]) _ (Kept.set (by simp)) ⟨1,_,by omega,ErN.new _ _ ⟨by omega,by omega⟩,AHeap.get_set_same _ _ _⟩)
  ·obtain ⟨N,rfl⟩ : ∃ N : Nat,n = N := ⟨n.toNat,by omega⟩
   have hw2 : IntKind.i64.wrap ((p : Int) + (N : Int)) = ((p + N : Nat) : Int) := by rw [wrap64 ⟨by omega,by omega⟩]; omega
   have hsl := slice_str (σ := σ) ty9 (s := s) (lo := p) (hi := p + N) (by omega) (by omega)
   simp (disch := first | assumption | simp) only [↓sbD,sbU,tyB,Nat.reduceMul,Nat.reduceSub,Int.reduceEq,Int.reduceLT,Int.reduceLE,Int.reduceNe,Nat.reduceBneDiff,Nat.reduceBEq,decide_false,gt_iff_lt,Bool.or_self,Bool.false_eq_true,Nat.mul_one,Nat.one_mul,Nat.zero_mul,↓reduceIte,Nat.reduceEqDiff,Nat.reduceLT,Nat.reduceAdd,Nat.reduceLeDiff,reduceCtorEq,goInt,pairs,isConst,TI.isAgg,splice,boxS,Edp,dpv,Nat.beq_eq,ZV.val,List.any_cons,List.any_nil,Bool.false_and,h0,hr',hw,h1,hw2,hsl]
   exact downS_here (hok _ _ (by unfold rawR; rw [if_neg h0,if_neg (by omega)]; rfl) _ (Kept.set (by simp)) (AHeap.get_set_same _ _ _))
theorem specRRawE {n : Int} {u : Nat} {x : Value} (hr : IsR σ r s p (.iface u x)) (h : Q (.string emp) σ) : CallS E B 32 [.pointer (some ⟨r,0,none⟩),.int .i64 n] σ Q := by
 refine call32 (by simp) ?_
 simp only [strip,bodyOf,Tryd.f32,getD_body,keepN,bareOp_mk,lessOp_mk,lapp_cons,lapp_nil,List.map_cons,List.map_nil,array_toList,↓reduceIte,Nat.reduceEqDiff,Bool.false_eq_true]
 simp (disch := first | assumption | simp) only [↓sbD,sbU,tyB,Nat.reduceMul,Nat.reduceSub,Int.reduceEq,Int.reduceLT,Int.reduceLE,Int.reduceNe,Nat.reduceBneDiff,Nat.reduceBEq,decide_false,gt_iff_lt,Bool.or_self,Bool.false_eq_true,Nat.mul_one,Nat.one_mul,Nat.zero_mul,↓reduceIte,Nat.reduceEqDiff,Nat.reduceLT,Nat.reduceAdd,Nat.reduceLeDiff,reduceCtorEq,goInt,pairs,isConst,TI.isAgg,splice,boxS,Edp,dpv,Nat.beq_eq,ZV.val,List.any_cons,List.any_nil,Bool.false_and]
 refine specROffE hr ?_
 simp (disch := first | assumption | simp) only [↓sbD,sbU,tyB,Nat.reduceMul,Nat.reduceSub,Int.reduceEq,Int.reduceLT,Int.reduceLE,Int.reduceNe,Nat.reduceBneDiff,Nat.reduceBEq,decide_false,gt_iff_lt,Bool.or_self,Bool.false_eq_true,Nat.mul_one,Nat.one_mul,Nat.zero_mul,↓reduceIte,Nat.reduceEqDiff,Nat.reduceLT,Nat.reduceAdd,Nat.reduceLeDiff,reduceCtorEq,goInt,pairs,isConst,TI.isAgg,splice,boxS,Edp,dpv,Nat.beq_eq,ZV.val,List.any_cons,List.any_nil,Bool.false_and]
 exact downS_here h
end
def beF (b : ByteArray) : Nat → Nat
 | 0 => 0
 | i + 1 => beF b i * 256 + bt b i
def numR (s : ByteArray) (p k : Nat) : Rd Nat := match rawR s p k with
 | .ok (b,q) => .ok (beF b b.size,q)
 | .error e => .error e
def varR (s : ByteArray) (p : Nat) : Rd Nat := match takeF (s.extract p s.size) 4 0 0 with
 | .inl (n,k) => .ok (n,p + k)
 | .inr (k,q) => .error (k + 1,p + q)
def binR (s : ByteArray) (p : Nat) : Rd ByteArray := match numR s p 2 with
 | .ok (n,q) => rawR s q n
 | .error e => .error e
def textR (s : ByteArray) (p : Nat) : Rd ByteArray := match binR s p with
 | .ok (b,q) => match textF b with
  | .inl _ => .ok (b,q)
  | .inr (k,j) => .error (k + 1,p + 2 + j)
 | .error e => .error e
theorem beF_lt (b : ByteArray) : ∀ i,beF b i < 256 ^ i
 | 0 => by simp [beF]
 | i + 1 => by
  have h1 := beF_lt b i
  have h2 := bt_lt b i
  rw [beF,Nat.pow_succ]
  omega
theorem rawR_ok {s v : ByteArray} {p q : Nat} {n : Int} (h : rawR s p n = .ok (v,q)) : 0 ≤ n ∧ v = s.extract p q ∧ q = p + n.toNat ∧ q ≤ s.size ∧ v.size = n.toNat := by
 unfold rawR at h
 split at h
 ·cases h
 ·split at h
  ·cases h
  ·injection h with h; injection h with h1 h2
   subst h1; subst h2
   refine ⟨by omega,rfl,rfl,by omega,?_⟩
   rw [ByteArray.size_extract]; omega
theorem shl8 {σ : AHeap} {N t : Nat} {cs : Bool} (h : N < 16777216) : abin E σ .shl t cs (.int .i64 (N : Int)) (.int .u64 8) = some (.int .i64 ((N * 256 : Nat) : Int)) := by
 simp only [abin,ashift]
 rw [if_neg (by omega)]
 show some (Value.int .i64 (IntKind.i64.wrap ((N : Int) * 2 ^ 8))) = _
 rw [wrap64 ⟨by omega,by omega⟩]; congr 2
theorem or8 {N m : Nat} (h : N < 16777216) (hm : m < 256) : aint .or .i64 ((N * 256 : Nat) : Int) (m : Int) = some (.int .i64 ((N * 256 + m : Nat) : Int)) := by
 have e : N * 256 ||| m = N * 256 + m := by
  have := or_add (n := m) (m := N) (i := 8) (by omega)
  rw [Nat.or_comm,show N * 256 = N * 2 ^ 8 from rfl,this]; omega
 rw [abits_nat (by omega) (by omega) (by rw [e]; omega),e]
theorem conv_by {σ : AHeap} {b : ByteArray} {K : Value → AHeap → Prop} (hq : ∀ d,σ.get d = .dead → K (.slice (some ⟨d,0,none⟩) b.size b.size) (σ.set d (.cells (bytesOf b) true 1))) : afterOpS E B (some (convS E σ 9 56 (.string b))) σ K := by
 have e : convS E σ 9 56 (.string b) = .any fun d => aconvert E (σ.resize d) 9 56 (.string b) := by
  simp only [convS,conv_bytes,offHeap]
 rw [e]
 intro d hd
 exact ⟨_,_,conv_bytes,hq d (dead_of hd)⟩
section
variable {σ : AHeap} {r p : Nat} {s : ByteArray} {Q : Value → AHeap → Prop}
theorem specRNum {k : Nat} (hk : k ≤ 4) (hr : IsR σ r s p .nilIface) (hp : p ≤ s.size) (hs : s.size ≤ 1000000000)
  (hok : ∀ n q,numR s p k = .ok (n,q) → ∀ σ',Kept σ [r] σ' [r] → IsR σ' r s q .nilIface → Q (.int .i64 (n : Int)) σ')
  (hbad : ∀ e q,numR s p k = .error (e,q) → ∀ σ',Kept σ [r] σ' [r] → RBad σ' r s p e q → Q (.int .i64 0) σ') : CallS E B 30 [.pointer (some ⟨r,0,none⟩),.int .i64 (k : Int)] σ Q := by
 refine call30 (by simp) ?_
 simp only [strip,bodyOf,Tryd.f30,getD_body,keepN,bareOp_mk,lessOp_mk,lapp_cons,lapp_nil,List.map_cons,List.map_nil,array_toList,↓reduceIte,Nat.reduceEqDiff,Bool.false_eq_true]
 simp (disch := first | assumption | simp) only [↓sbD,sbU,tyB,Nat.reduceMul,Nat.reduceSub,Int.reduceEq,Int.reduceLT,Int.reduceLE,Int.reduceNe,Nat.reduceBneDiff,Nat.reduceBEq,decide_false,gt_iff_lt,Bool.or_self,Bool.false_eq_true,Nat.mul_one,Nat.one_mul,Nat.zero_mul,↓reduceIte,Nat.reduceEqDiff,Nat.reduceLT,Nat.reduceAdd,Nat.reduceLeDiff,reduceCtorEq,goInt,pairs,isConst,TI.isAgg,splice,boxS,Edp,dpv,Nat.beq_eq,ZV.val,List.any_cons,List.any_nil,Bool.false_and]
 refine specRRaw hr hp hs (fun b q hb σ1 k1 i1 => ?_) fun e q hb σ1 k1 i1 => ?_
 ·obtain ⟨_,_,_,_,hbz⟩ := rawR_ok hb
  rw [Int.toNat_natCast] at hbz
  simp (disch := first | assumption | simp) only [↓sbD,sbU,tyB,Nat.reduceMul,Nat.reduceSub,Int.reduceEq,Int.reduceLT,Int.reduceLE,Int.reduceNe,Nat.reduceBneDiff,Nat.reduceBEq,decide_false,gt_iff_lt,Bool.or_self,Bool.false_eq_true,Nat.mul_one,Nat.one_mul,Nat.zero_mul,↓reduceIte,Nat.reduceEqDiff,Nat.reduceLT,Nat.reduceAdd,Nat.reduceLeDiff,reduceCtorEq,goInt,pairs,isConst,TI.isAgg,splice,boxS,Edp,dpv,Nat.beq_eq,ZV.val,List.any_cons,List.any_nil,Bool.false_and]
  refine conv_by fun d hd => ?_
  simp (disch := first | assumption | simp) only [↓sbD,sbU,tyB,Nat.reduceMul,Nat.reduceSub,Int.reduceEq,Int.reduceLT,Int.reduceLE,Int.reduceNe,Nat.reduceBneDiff,Nat.reduceBEq,decide_false,gt_iff_lt,Bool.or_self,Bool.false_eq_true,Nat.mul_one,Nat.one_mul,Nat.zero_mul,↓reduceIte,Nat.reduceEqDiff,Nat.reduceLT,Nat.reduceAdd,Nat.reduceLeDiff,reduceCtorEq,goInt,pairs,isConst,TI.isAgg,splice,boxS,Edp,dpv,Nat.beq_eq,ZV.val,List.any_cons,List.any_nil,Bool.false_and]
  have hg : (σ1.set d (.cells (bytesOf b) true 1)).get d = .cells (bytesOf b) true 1 := AHeap.get_set_same _ _ _
  refine S_loop (fun m f σ' => σ' = σ1.set d (.cells (bytesOf b) true 1) ∧ ∃ i : Nat,i ≤ b.size ∧ m + i = b.size ∧ f 13 = .int .i64 i ∧ f 5 = .int .i64 (beF b i : Int)) b.size (Le.refl _) ⟨rfl,0,by omega,rfl,by simp (disch := first | assumption | simp) only [↓sbD,sbU,tyB,Nat.reduceMul,Nat.reduceSub,Int.reduceEq,Int.reduceLT,Int.reduceLE,Int.reduceNe,Nat.reduceBneDiff,Nat.reduceBEq,decide_false,gt_iff_lt,Bool.or_self,Bool.false_eq_true,Nat.mul_one,Nat.one_mul,Nat.zero_mul,↓reduceIte,Nat.reduceEqDiff,Nat.reduceLT,Nat.reduceAdd,Nat.reduceLeDiff,reduceCtorEq,goInt,pairs,isConst,TI.isAgg,splice,boxS,Edp,dpv,Nat.beq_eq,ZV.val,List.any_cons,List.any_nil,Bool.false_and]; rfl,by simp (disch := first | assumption | simp) only [↓sbD,sbU,tyB,Nat.reduceMul,Nat.reduceSub,Int.reduceEq,Int.reduceLT,Int.reduceLE,Int.reduceNe,Nat.reduceBneDiff,Nat.reduceBEq,decide_false,gt_iff_lt,Bool.or_self,Bool.false_eq_true,Nat.mul_one,Nat.one_mul,Nat.zero_mul,↓reduceIte,Nat.reduceEqDiff,Nat.reduceLT,Nat.reduceAdd,Nat.reduceLeDiff,reduceCtorEq,goInt,pairs,isConst,TI.isAgg,splice,boxS,Edp,dpv,Nat.beq_eq,ZV.val,List.any_cons,List.any_nil,Bool.false_and]; rfl⟩ ?_
  rintro m f σ' ⟨rfl,i,hib,hm,f13,f5⟩ hf
  have f11 := hf 11 (by decide) (notMem_wr (by kernel_rfl))
  have f12 := hf 12 (by decide) (notMem_wr (by kernel_rfl))
  simp (disch := first | assumption | simp) only [↓sbD,sbU,tyB,Nat.reduceMul,Nat.reduceSub,Int.reduceEq,Int.reduceLT,Int.reduceLE,Int.reduceNe,Nat.reduceBneDiff,Nat.reduceBEq,decide_false,gt_iff_lt,Bool.or_self,Bool.false_eq_true,Nat.mul_one,Nat.one_mul,Nat.zero_mul,↓reduceIte,Nat.reduceEqDiff,Nat.reduceLT,Nat.reduceAdd,Nat.reduceLeDiff,reduceCtorEq,goInt,pairs,isConst,TI.isAgg,splice,boxS,Edp,dpv,Nat.beq_eq,ZV.val,List.any_cons,List.any_nil,Bool.false_and] at f11 f12
  clear hf
  by_cases hi : (i : Int) < (b.size : Int)
  ·have hi' : i < b.size := by omega
   have hlt : beF b i < 16777216 := by
    have := beF_lt b i
    have h3 : 256 ^ i ≤ 256 ^ 3 := Nat.pow_le_pow_right (by omega) (by omega)
    omega
   have hw := wrap_suc (n := i) (by omega)
   have hbt : bt b i < 256 := bt_lt b i
   have hw2 : IntKind.i64.wrap ((bt b i : Nat) : Int) = ((bt b i : Nat) : Int) := wrap64 ⟨by omega,by omega⟩
   simp (disch := first | assumption | simp) only [↓sbD,sbU,tyB,Nat.reduceMul,Nat.reduceSub,Int.reduceEq,Int.reduceLT,Int.reduceLE,Int.reduceNe,Nat.reduceBneDiff,Nat.reduceBEq,decide_false,gt_iff_lt,Bool.or_self,Bool.false_eq_true,Nat.mul_one,Nat.one_mul,Nat.zero_mul,↓reduceIte,Nat.reduceEqDiff,Nat.reduceLT,Nat.reduceAdd,Nat.reduceLeDiff,reduceCtorEq,goInt,pairs,isConst,TI.isAgg,splice,boxS,Edp,dpv,Nat.beq_eq,ZV.val,List.any_cons,List.any_nil,Bool.false_and,f5,f11,f12,f13,hi,bytes_get hi',shl8 hlt,hw2,or8 hlt hbt,hw]
   exact ⟨_,m - 1,_,rfl,by omega,Le.refl _,rfl,i + 1,by omega,by omega,by simp (disch := first | assumption | simp) only [↓sbD,sbU,tyB,Nat.reduceMul,Nat.reduceSub,Int.reduceEq,Int.reduceLT,Int.reduceLE,Int.reduceNe,Nat.reduceBneDiff,Nat.reduceBEq,decide_false,gt_iff_lt,Bool.or_self,Bool.false_eq_true,Nat.mul_one,Nat.one_mul,Nat.zero_mul,↓reduceIte,Nat.reduceEqDiff,Nat.reduceLT,Nat.reduceAdd,Nat.reduceLeDiff,reduceCtorEq,goInt,pairs,isConst,TI.isAgg,splice,boxS,Edp,dpv,Nat.beq_eq,ZV.val,List.any_cons,List.any_nil,Bool.false_and],by simp (disch := first | assumption | simp) only [↓sbD,sbU,tyB,Nat.reduceMul,Nat.reduceSub,Int.reduceEq,Int.reduceLT,Int.reduceLE,Int.reduceNe,Nat.reduceBneDiff,Nat.reduceBEq,decide_false,gt_iff_lt,Bool.or_self,Bool.false_eq_true,Nat.mul_one,Nat.one_mul,Nat.zero_mul,↓reduceIte,Nat.reduceEqDiff,Nat.reduceLT,Nat.reduceAdd,Nat.reduceLeDiff,reduceCtorEq,goInt,pairs,isConst,TI.isAgg,splice,boxS,Edp,dpv,Nat.beq_eq,ZV.val,List.any_cons,List.any_nil,Bool.false_and]; rfl⟩
  ·obtain rfl : i = b.size := by omega
   simp (disch := first | assumption | simp) only [↓sbD,sbU,tyB,Nat.reduceMul,Nat.reduceSub,Int.reduceEq,Int.reduceLT,Int.reduceLE,Int.reduceNe,Nat.reduceBneDiff,Nat.reduceBEq,decide_false,gt_iff_lt,Bool.or_self,Bool.false_eq_true,Nat.mul_one,Nat.one_mul,Nat.zero_mul,↓reduceIte,Nat.reduceEqDiff,Nat.reduceLT,Nat.reduceAdd,Nat.reduceLeDiff,reduceCtorEq,goInt,pairs,isConst,TI.isAgg,splice,boxS,Edp,dpv,Nat.beq_eq,ZV.val,List.any_cons,List.any_nil,Bool.false_and,f5,f11,f12,f13,hi]
   refine downS_le (Le.new hd) (hok _ q (by unfold numR; rw [hb]) σ1 k1 i1)
 ·simp (disch := first | assumption | simp) only [↓sbD,sbU,tyB,Nat.reduceMul,Nat.reduceSub,Int.reduceEq,Int.reduceLT,Int.reduceLE,Int.reduceNe,Nat.reduceBneDiff,Nat.reduceBEq,decide_false,gt_iff_lt,Bool.or_self,Bool.false_eq_true,Nat.mul_one,Nat.one_mul,Nat.zero_mul,↓reduceIte,Nat.reduceEqDiff,Nat.reduceLT,Nat.reduceAdd,Nat.reduceLeDiff,reduceCtorEq,goInt,pairs,isConst,TI.isAgg,splice,boxS,Edp,dpv,Nat.beq_eq,ZV.val,List.any_cons,List.any_nil,Bool.false_and]
  refine conv_by fun d hd => ?_
  simp (disch := first | assumption | simp) only [↓sbD,sbU,tyB,Nat.reduceMul,Nat.reduceSub,Int.reduceEq,Int.reduceLT,Int.reduceLE,Int.reduceNe,Nat.reduceBneDiff,Nat.reduceBEq,decide_false,gt_iff_lt,Bool.or_self,Bool.false_eq_true,Nat.mul_one,Nat.one_mul,Nat.zero_mul,↓reduceIte,Nat.reduceEqDiff,Nat.reduceLT,Nat.reduceAdd,Nat.reduceLeDiff,reduceCtorEq,goInt,pairs,isConst,TI.isAgg,splice,boxS,Edp,dpv,Nat.beq_eq,ZV.val,List.any_cons,List.any_nil,Bool.false_and]
  have h0 : ((emp.size : Nat) : Int) = 0 := rfl
  refine S_loop (fun m f σ' => σ' = σ1.set d (.cells (bytesOf emp) true 1) ∧ f 13 = .int .i64 0 ∧ f 5 = .int .i64 0) 0 (Le.refl _) ⟨rfl,by simp (disch := first | assumption | simp) only [↓sbD,sbU,tyB,Nat.reduceMul,Nat.reduceSub,Int.reduceEq,Int.reduceLT,Int.reduceLE,Int.reduceNe,Nat.reduceBneDiff,Nat.reduceBEq,decide_false,gt_iff_lt,Bool.or_self,Bool.false_eq_true,Nat.mul_one,Nat.one_mul,Nat.zero_mul,↓reduceIte,Nat.reduceEqDiff,Nat.reduceLT,Nat.reduceAdd,Nat.reduceLeDiff,reduceCtorEq,goInt,pairs,isConst,TI.isAgg,splice,boxS,Edp,dpv,Nat.beq_eq,ZV.val,List.any_cons,List.any_nil,Bool.false_and],by simp (disch := first | assumption | simp) only [↓sbD,sbU,tyB,Nat.reduceMul,Nat.reduceSub,Int.reduceEq,Int.reduceLT,Int.reduceLE,Int.reduceNe,Nat.reduceBneDiff,Nat.reduceBEq,decide_false,gt_iff_lt,Bool.or_self,Bool.false_eq_true,Nat.mul_one,Nat.one_mul,Nat.zero_mul,↓reduceIte,Nat.reduceEqDiff,Nat.reduceLT,Nat.reduceAdd,Nat.reduceLeDiff,reduceCtorEq,goInt,pairs,isConst,TI.isAgg,splice,boxS,Edp,dpv,Nat.beq_eq,ZV.val,List.any_cons,List.any_nil,Bool.false_and]⟩ ?_
  rintro m f σ' ⟨rfl,f13,f5⟩ hf
  have f12 := hf 12 (by decide) (notMem_wr (by kernel_rfl))
  simp (disch := first | assumption | simp) only [↓sbD,sbU,tyB,Nat.reduceMul,Nat.reduceSub,Int.reduceEq,Int.reduceLT,Int.reduceLE,Int.reduceNe,Nat.reduceBneDiff,Nat.reduceBEq,decide_false,gt_iff_lt,Bool.or_self,Bool.false_eq_true,Nat.mul_one,Nat.one_mul,Nat.zero_mul,↓reduceIte,Nat.reduceEqDiff,Nat.reduceLT,Nat.reduceAdd,Nat.reduceLeDiff,reduceCtorEq,goInt,pairs,isConst,TI.isAgg,splice,boxS,Edp,dpv,Nat.beq_eq,ZV.val,List.any_cons,List.any_nil,Bool.false_and] at f12
  clear hf
  simp (disch := first | assumption | simp) only [↓sbD,sbU,tyB,Nat.reduceMul,Nat.reduceSub,Int.reduceEq,Int.reduceLT,Int.reduceLE,Int.reduceNe,Nat.reduceBneDiff,Nat.reduceBEq,decide_false,gt_iff_lt,Bool.or_self,Bool.false_eq_true,Nat.mul_one,Nat.one_mul,Nat.zero_mul,↓reduceIte,Nat.reduceEqDiff,Nat.reduceLT,Nat.reduceAdd,Nat.reduceLeDiff,reduceCtorEq,goInt,pairs,isConst,TI.isAgg,splice,boxS,Edp,dpv,Nat.beq_eq,ZV.val,List.any_cons,List.any_nil,Bool.false_and,f5,f12,f13,h0]
  exact downS_le (Le.new hd) (hbad e q (by unfold numR; rw [hb]) σ1 k1 i1)
end
section
variable {σ : AHeap} {r p : Nat} {s : ByteArray} {Q : Value → AHeap → Prop}
theorem specRNumE {k : Nat} {u : Nat} {x : Value} (hr : IsR σ r s p (.iface u x)) (h : Q (.int .i64 0) σ) : CallS E B 30 [.pointer (some ⟨r,0,none⟩),.int .i64 (k : Int)] σ Q := by
 refine call30 (by simp) ?_
 simp only [strip,bodyOf,Tryd.f30,getD_body,keepN,bareOp_mk,lessOp_mk,lapp_cons,lapp_nil,List.map_cons,List.map_nil,array_toList,↓reduceIte,Nat.reduceEqDiff,Bool.false_eq_true]
 simp (disch := first | assumption | simp) only [↓sbD,sbU,tyB,Nat.reduceMul,Nat.reduceSub,Int.reduceEq,Int.reduceLT,Int.reduceLE,Int.reduceNe,Nat.reduceBneDiff,Nat.reduceBEq,decide_false,gt_iff_lt,Bool.or_self,Bool.false_eq_true,Nat.mul_one,Nat.one_mul,Nat.zero_mul,↓reduceIte,Nat.reduceEqDiff,Nat.reduceLT,Nat.reduceAdd,Nat.reduceLeDiff,reduceCtorEq,goInt,pairs,isConst,TI.isAgg,splice,boxS,Edp,dpv,Nat.beq_eq,ZV.val,List.any_cons,List.any_nil,Bool.false_and]
 refine specRRawE hr ?_
 simp (disch := first | assumption | simp) only [↓sbD,sbU,tyB,Nat.reduceMul,Nat.reduceSub,Int.reduceEq,Int.reduceLT,Int.reduceLE,Int.reduceNe,Nat.reduceBneDiff,Nat.reduceBEq,decide_false,gt_iff_lt,Bool.or_self,Bool.false_eq_true,Nat.mul_one,Nat.one_mul,Nat.zero_mul,↓reduceIte,Nat.reduceEqDiff,Nat.reduceLT,Nat.reduceAdd,Nat.reduceLeDiff,reduceCtorEq,goInt,pairs,isConst,TI.isAgg,splice,boxS,Edp,dpv,Nat.beq_eq,ZV.val,List.any_cons,List.any_nil,Bool.false_and]
 refine conv_by fun d hd => ?_
 simp (disch := first | assumption | simp) only [↓sbD,sbU,tyB,Nat.reduceMul,Nat.reduceSub,Int.reduceEq,Int.reduceLT,Int.reduceLE,Int.reduceNe,Nat.reduceBneDiff,Nat.reduceBEq,decide_false,gt_iff_lt,Bool.or_self,Bool.false_eq_true,Nat.mul_one,Nat.one_mul,Nat.zero_mul,↓reduceIte,Nat.reduceEqDiff,Nat.reduceLT,Nat.reduceAdd,Nat.reduceLeDiff,reduceCtorEq,goInt,pairs,isConst,TI.isAgg,splice,boxS,Edp,dpv,Nat.beq_eq,ZV.val,List.any_cons,List.any_nil,Bool.false_and]
 have h0 : ((emp.size : Nat) : Int) = 0 := rfl
 refine S_loop (fun m f σ' => σ' = σ.set d (.cells (bytesOf emp) true 1) ∧ f 13 = .int .i64 0 ∧ f 5 = .int .i64 0) 0 (Le.refl _) ⟨rfl,by simp (disch := first | assumption | simp) only [↓sbD,sbU,tyB,Nat.reduceMul,Nat.reduceSub,Int.reduceEq,Int.reduceLT,Int.reduceLE,Int.reduceNe,Nat.reduceBneDiff,Nat.reduceBEq,decide_false,gt_iff_lt,Bool.or_self,Bool.false_eq_true,Nat.mul_one,Nat.one_mul,Nat.zero_mul,↓reduceIte,Nat.reduceEqDiff,Nat.reduceLT,Nat.reduceAdd,Nat.reduceLeDiff,reduceCtorEq,goInt,pairs,isConst,TI.isAgg,splice,boxS,Edp,dpv,Nat.beq_eq,ZV.val,List.any_cons,List.any_nil,Bool.false_and],by simp (disch := first | assumption | simp) only [↓sbD,sbU,tyB,Nat.reduceMul,Nat.reduceSub,Int.reduceEq,Int.reduceLT,Int.reduceLE,Int.reduceNe,Nat.reduceBneDiff,Nat.reduceBEq,decide_false,gt_iff_lt,Bool.or_self,Bool.false_eq_true,Nat.mul_one,Nat.one_mul,Nat.zero_mul,↓reduceIte,Nat.reduceEqDiff,Nat.reduceLT,Nat.reduceAdd,Nat.reduceLeDiff,reduceCtorEq,goInt,pairs,isConst,TI.isAgg,splice,boxS,Edp,dpv,Nat.beq_eq,ZV.val,List.any_cons,List.any_nil,Bool.false_and]⟩ ?_
 rintro m f σ' ⟨rfl,f13,f5⟩ hf
 have f12 := hf 12 (by decide) (notMem_wr (by kernel_rfl))
 simp (disch := first | assumption | simp) only [↓sbD,sbU,tyB,Nat.reduceMul,Nat.reduceSub,Int.reduceEq,Int.reduceLT,Int.reduceLE,Int.reduceNe,Nat.reduceBneDiff,Nat.reduceBEq,decide_false,gt_iff_lt,Bool.or_self,Bool.false_eq_true,Nat.mul_one,Nat.one_mul,Nat.zero_mul,↓reduceIte,Nat.reduceEqDiff,Nat.reduceLT,Nat.reduceAdd,Nat.reduceLeDiff,reduceCtorEq,goInt,pairs,isConst,TI.isAgg,splice,boxS,Edp,dpv,Nat.beq_eq,ZV.val,List.any_cons,List.any_nil,Bool.false_and] at f12
 clear hf
 simp (disch := first | assumption | simp) only [↓sbD,sbU,tyB,Nat.reduceMul,Nat.reduceSub,Int.reduceEq,Int.reduceLT,Int.reduceLE,Int.reduceNe,Nat.reduceBneDiff,Nat.reduceBEq,decide_false,gt_iff_lt,Bool.or_self,Bool.false_eq_true,Nat.mul_one,Nat.one_mul,Nat.zero_mul,↓reduceIte,Nat.reduceEqDiff,Nat.reduceLT,Nat.reduceAdd,Nat.reduceLeDiff,reduceCtorEq,goInt,pairs,isConst,TI.isAgg,splice,boxS,Edp,dpv,Nat.beq_eq,ZV.val,List.any_cons,List.any_nil,Bool.false_and,f5,f12,f13,h0]
 exact downS_le (Le.new hd) h
theorem specRU8 (hr : IsR σ r s p .nilIface) (hp : p ≤ s.size) (hs : s.size ≤ 1000000000)
  (hok : ∀ n q,numR s p 1 = .ok (n,q) → ∀ σ',Kept σ [r] σ' [r] → IsR σ' r s q .nilIface → Q (.int .i64 (n : Int)) σ')
  (hbad : ∀ e q,numR s p 1 = .error (e,q) → ∀ σ',Kept σ [r] σ' [r] → RBad σ' r s p e q → Q (.int .i64 0) σ') : CallS E B 16 [.pointer (some ⟨r,0,none⟩)] σ Q := by
 refine call16 (by simp) ?_
 simp only [strip,bodyOf,Tryd.f16,getD_body,keepN,bareOp_mk,lessOp_mk,lapp_cons,lapp_nil,List.map_cons,List.map_nil,array_toList,↓reduceIte,Nat.reduceEqDiff,Bool.false_eq_true]
 simp (disch := first | assumption | simp) only [↓sbD,sbU,tyB,Nat.reduceMul,Nat.reduceSub,Int.reduceEq,Int.reduceLT,Int.reduceLE,Int.reduceNe,Nat.reduceBneDiff,Nat.reduceBEq,decide_false,gt_iff_lt,Bool.or_self,Bool.false_eq_true,Nat.mul_one,Nat.one_mul,Nat.zero_mul,↓reduceIte,Nat.reduceEqDiff,Nat.reduceLT,Nat.reduceAdd,Nat.reduceLeDiff,reduceCtorEq,goInt,pairs,isConst,TI.isAgg,splice,boxS,Edp,dpv,Nat.beq_eq,ZV.val,List.any_cons,List.any_nil,Bool.false_and]
 refine specRNum (k := 1) (by omega) hr hp hs (fun n q hn σ' k1 i1 => ?_) fun e q hn σ' k1 i1 => ?_
 ·simp (disch := first | assumption | simp) only [↓sbD,sbU,tyB,Nat.reduceMul,Nat.reduceSub,Int.reduceEq,Int.reduceLT,Int.reduceLE,Int.reduceNe,Nat.reduceBneDiff,Nat.reduceBEq,decide_false,gt_iff_lt,Bool.or_self,Bool.false_eq_true,Nat.mul_one,Nat.one_mul,Nat.zero_mul,↓reduceIte,Nat.reduceEqDiff,Nat.reduceLT,Nat.reduceAdd,Nat.reduceLeDiff,reduceCtorEq,goInt,pairs,isConst,TI.isAgg,splice,boxS,Edp,dpv,Nat.beq_eq,ZV.val,List.any_cons,List.any_nil,Bool.false_and]
  exact downS_here (hok n q hn σ' k1 i1)
 ·simp (disch := first | assumption | simp) only [↓sbD,sbU,tyB,Nat.reduceMul,Nat.reduceSub,Int.reduceEq,Int.reduceLT,Int.reduceLE,Int.reduceNe,Nat.reduceBneDiff,Nat.reduceBEq,decide_false,gt_iff_lt,Bool.or_self,Bool.false_eq_true,Nat.mul_one,Nat.one_mul,Nat.zero_mul,↓reduceIte,Nat.reduceEqDiff,Nat.reduceLT,Nat.reduceAdd,Nat.reduceLeDiff,reduceCtorEq,goInt,pairs,isConst,TI.isAgg,splice,boxS,Edp,dpv,Nat.beq_eq,ZV.val,List.any_cons,List.any_nil,Bool.false_and]
  exact downS_here (hbad e q hn σ' k1 i1)
theorem specRU8E {u : Nat} {x : Value} (hr : IsR σ r s p (.iface u x)) (h : Q (.int .i64 0) σ) : CallS E B 16 [.pointer (some ⟨r,0,none⟩)] σ Q := by
 refine call16 (by simp) ?_
 simp only [strip,bodyOf,Tryd.f16,getD_body,keepN,bareOp_mk,lessOp_mk,lapp_cons,lapp_nil,List.map_cons,List.map_nil,array_toList,↓reduceIte,Nat.reduceEqDiff,Bool.false_eq_true]
 simp (disch := first | assumption | simp) only [↓sbD,sbU,tyB,Nat.reduceMul,Nat.reduceSub,Int.reduceEq,Int.reduceLT,Int.reduceLE,Int.reduceNe,Nat.reduceBneDiff,Nat.reduceBEq,decide_false,gt_iff_lt,Bool.or_self,Bool.false_eq_true,Nat.mul_one,Nat.one_mul,Nat.zero_mul,↓reduceIte,Nat.reduceEqDiff,Nat.reduceLT,Nat.reduceAdd,Nat.reduceLeDiff,reduceCtorEq,goInt,pairs,isConst,TI.isAgg,splice,boxS,Edp,dpv,Nat.beq_eq,ZV.val,List.any_cons,List.any_nil,Bool.false_and]
 refine specRNumE (k := 1) hr ?_
 simp (disch := first | assumption | simp) only [↓sbD,sbU,tyB,Nat.reduceMul,Nat.reduceSub,Int.reduceEq,Int.reduceLT,Int.reduceLE,Int.reduceNe,Nat.reduceBneDiff,Nat.reduceBEq,decide_false,gt_iff_lt,Bool.or_self,Bool.false_eq_true,Nat.mul_one,Nat.one_mul,Nat.zero_mul,↓reduceIte,Nat.reduceEqDiff,Nat.reduceLT,Nat.reduceAdd,Nat.reduceLeDiff,reduceCtorEq,goInt,pairs,isConst,TI.isAgg,splice,boxS,Edp,dpv,Nat.beq_eq,ZV.val,List.any_cons,List.any_nil,Bool.false_and]
 exact downS_here h
theorem specRU16 (hr : IsR σ r s p .nilIface) (hp : p ≤ s.size) (hs : s.size ≤ 1000000000)
  (hok : ∀ n q,numR s p 2 = .ok (n,q) → ∀ σ',Kept σ [r] σ' [r] → IsR σ' r s q .nilIface → Q (.int .i64 (n : Int)) σ')
  (hbad : ∀ e q,numR s p 2 = .error (e,q) → ∀ σ',Kept σ [r] σ' [r] → RBad σ' r s p e q → Q (.int .i64 0) σ') : CallS E B 33 [.pointer (some ⟨r,0,none⟩)] σ Q := by
 refine call33 (by simp) ?_
 simp only [strip,bodyOf,Tryd.f33,getD_body,keepN,bareOp_mk,lessOp_mk,lapp_cons,lapp_nil,List.map_cons,List.map_nil,array_toList,↓reduceIte,Nat.reduceEqDiff,Bool.false_eq_true]
 simp (disch := first | assumption | simp) only [↓sbD,sbU,tyB,Nat.reduceMul,Nat.reduceSub,Int.reduceEq,Int.reduceLT,Int.reduceLE,Int.reduceNe,Nat.reduceBneDiff,Nat.reduceBEq,decide_false,gt_iff_lt,Bool.or_self,Bool.false_eq_true,Nat.mul_one,Nat.one_mul,Nat.zero_mul,↓reduceIte,Nat.reduceEqDiff,Nat.reduceLT,Nat.reduceAdd,Nat.reduceLeDiff,reduceCtorEq,goInt,pairs,isConst,TI.isAgg,splice,boxS,Edp,dpv,Nat.beq_eq,ZV.val,List.any_cons,List.any_nil,Bool.false_and]
 refine specRNum (k := 2) (by omega) hr hp hs (fun n q hn σ' k1 i1 => ?_) fun e q hn σ' k1 i1 => ?_
 ·simp (disch := first | assumption | simp) only [↓sbD,sbU,tyB,Nat.reduceMul,Nat.reduceSub,Int.reduceEq,Int.reduceLT,Int.reduceLE,Int.reduceNe,Nat.reduceBneDiff,Nat.reduceBEq,decide_false,gt_iff_lt,Bool.or_self,Bool.false_eq_true,Nat.mul_one,Nat.one_mul,Nat.zero_mul,↓reduceIte,Nat.reduceEqDiff,Nat.reduceLT,Nat.reduceAdd,Nat.reduceLeDiff,reduceCtorEq,goInt,pairs,isConst,TI.isAgg,splice,boxS,Edp,dpv,Nat.beq_eq,ZV.val,List.any_cons,List.any_nil,Bool.false_and]
  exact downS_here (hok n q hn σ' k1 i1)
 ·simp (disch := first | assumption | simp) only [↓sbD,sbU,tyB,Nat.reduceMul,Nat.reduceSub,Int.reduceEq,Int.reduceLT,Int.reduceLE,Int.reduceNe,Nat.reduceBneDiff,Nat.reduceBEq,decide_false,gt_iff_lt,Bool.or_self,Bool.false_eq_true,Nat.mul_one,Nat.one_mul,Nat.zero_mul,↓reduceIte,Nat.reduceEqDiff,Nat.reduceLT,Nat.reduceAdd,Nat.reduceLeDiff,reduceCtorEq,goInt,pairs,isConst,TI.isAgg,splice,boxS,Edp,dpv,Nat.beq_eq,ZV.val,List.any_cons,List.any_nil,Bool.false_and]
  exact downS_here (hbad e q hn σ' k1 i1)
theorem specRU16E {u : Nat} {x : Value} (hr : IsR σ r s p (.iface u x)) (h : Q (.int .i64 0) σ) : CallS E B 33 [.pointer (some ⟨r,0,none⟩)] σ Q := by
 refine call33 (by simp) ?_
 simp only [strip,bodyOf,Tryd.f33,getD_body,keepN,bareOp_mk,lessOp_mk,lapp_cons,lapp_nil,List.map_cons,List.map_nil,array_toList,↓reduceIte,Nat.reduceEqDiff,Bool.false_eq_true]
 simp (disch := first | assumption | simp) only [↓sbD,sbU,tyB,Nat.reduceMul,Nat.reduceSub,Int.reduceEq,Int.reduceLT,Int.reduceLE,Int.reduceNe,Nat.reduceBneDiff,Nat.reduceBEq,decide_false,gt_iff_lt,Bool.or_self,Bool.false_eq_true,Nat.mul_one,Nat.one_mul,Nat.zero_mul,↓reduceIte,Nat.reduceEqDiff,Nat.reduceLT,Nat.reduceAdd,Nat.reduceLeDiff,reduceCtorEq,goInt,pairs,isConst,TI.isAgg,splice,boxS,Edp,dpv,Nat.beq_eq,ZV.val,List.any_cons,List.any_nil,Bool.false_and]
 refine specRNumE (k := 2) hr ?_
 simp (disch := first | assumption | simp) only [↓sbD,sbU,tyB,Nat.reduceMul,Nat.reduceSub,Int.reduceEq,Int.reduceLT,Int.reduceLE,Int.reduceNe,Nat.reduceBneDiff,Nat.reduceBEq,decide_false,gt_iff_lt,Bool.or_self,Bool.false_eq_true,Nat.mul_one,Nat.one_mul,Nat.zero_mul,↓reduceIte,Nat.reduceEqDiff,Nat.reduceLT,Nat.reduceAdd,Nat.reduceLeDiff,reduceCtorEq,goInt,pairs,isConst,TI.isAgg,splice,boxS,Edp,dpv,Nat.beq_eq,ZV.val,List.any_cons,List.any_nil,Bool.false_and]
 exact downS_here h
theorem specRU32 (hr : IsR σ r s p .nilIface) (hp : p ≤ s.size) (hs : s.size ≤ 1000000000)
  (hok : ∀ n q,numR s p 4 = .ok (n,q) → ∀ σ',Kept σ [r] σ' [r] → IsR σ' r s q .nilIface → Q (.int .i64 (n : Int)) σ')
  (hbad : ∀ e q,numR s p 4 = .error (e,q) → ∀ σ',Kept σ [r] σ' [r] → RBad σ' r s p e q → Q (.int .i64 0) σ') : CallS E B 18 [.pointer (some ⟨r,0,none⟩)] σ Q := by
 refine call18 (by simp) ?_
 simp only [strip,bodyOf,Tryd.f18,getD_body,keepN,bareOp_mk,lessOp_mk,lapp_cons,lapp_nil,List.map_cons,List.map_nil,array_toList,↓reduceIte,Nat.reduceEqDiff,Bool.false_eq_true]
 simp (disch := first | assumption | simp) only [↓sbD,sbU,tyB,Nat.reduceMul,Nat.reduceSub,Int.reduceEq,Int.reduceLT,Int.reduceLE,Int.reduceNe,Nat.reduceBneDiff,Nat.reduceBEq,decide_false,gt_iff_lt,Bool.or_self,Bool.false_eq_true,Nat.mul_one,Nat.one_mul,Nat.zero_mul,↓reduceIte,Nat.reduceEqDiff,Nat.reduceLT,Nat.reduceAdd,Nat.reduceLeDiff,reduceCtorEq,goInt,pairs,isConst,TI.isAgg,splice,boxS,Edp,dpv,Nat.beq_eq,ZV.val,List.any_cons,List.any_nil,Bool.false_and]
 refine specRNum (k := 4) (by omega) hr hp hs (fun n q hn σ' k1 i1 => ?_) fun e q hn σ' k1 i1 => ?_
 ·simp (disch := first | assumption | simp) only [↓sbD,sbU,tyB,Nat.reduceMul,Nat.reduceSub,Int.reduceEq,Int.reduceLT,Int.reduceLE,Int.reduceNe,Nat.reduceBneDiff,Nat.reduceBEq,decide_false,gt_iff_lt,Bool.or_self,Bool.false_eq_true,Nat.mul_one,Nat.one_mul,Nat.zero_mul,↓reduceIte,Nat.reduceEqDiff,Nat.reduceLT,Nat.reduceAdd,Nat.reduceLeDiff,reduceCtorEq,goInt,pairs,isConst,TI.isAgg,splice,boxS,Edp,dpv,Nat.beq_eq,ZV.val,List.any_cons,List.any_nil,Bool.false_and]
  exact downS_here (hok n q hn σ' k1 i1)
 ·simp (disch := first | assumption | simp) only [↓sbD,sbU,tyB,Nat.reduceMul,Nat.reduceSub,Int.reduceEq,Int.reduceLT,Int.reduceLE,Int.reduceNe,Nat.reduceBneDiff,Nat.reduceBEq,decide_false,gt_iff_lt,Bool.or_self,Bool.false_eq_true,Nat.mul_one,Nat.one_mul,Nat.zero_mul,↓reduceIte,Nat.reduceEqDiff,Nat.reduceLT,Nat.reduceAdd,Nat.reduceLeDiff,reduceCtorEq,goInt,pairs,isConst,TI.isAgg,splice,boxS,Edp,dpv,Nat.beq_eq,ZV.val,List.any_cons,List.any_nil,Bool.false_and]
  exact downS_here (hbad e q hn σ' k1 i1)
theorem specRU32E {u : Nat} {x : Value} (hr : IsR σ r s p (.iface u x)) (h : Q (.int .i64 0) σ) : CallS E B 18 [.pointer (some ⟨r,0,none⟩)] σ Q := by
 refine call18 (by simp) ?_
 simp only [strip,bodyOf,Tryd.f18,getD_body,keepN,bareOp_mk,lessOp_mk,lapp_cons,lapp_nil,List.map_cons,List.map_nil,array_toList,↓reduceIte,Nat.reduceEqDiff,Bool.false_eq_true]
 simp (disch := first | assumption | simp) only [↓sbD,sbU,tyB,Nat.reduceMul,Nat.reduceSub,Int.reduceEq,Int.reduceLT,Int.reduceLE,Int.reduceNe,Nat.reduceBneDiff,Nat.reduceBEq,decide_false,gt_iff_lt,Bool.or_self,Bool.false_eq_true,Nat.mul_one,Nat.one_mul,Nat.zero_mul,↓reduceIte,Nat.reduceEqDiff,Nat.reduceLT,Nat.reduceAdd,Nat.reduceLeDiff,reduceCtorEq,goInt,pairs,isConst,TI.isAgg,splice,boxS,Edp,dpv,Nat.beq_eq,ZV.val,List.any_cons,List.any_nil,Bool.false_and]
 refine specRNumE (k := 4) hr ?_
 simp (disch := first | assumption | simp) only [↓sbD,sbU,tyB,Nat.reduceMul,Nat.reduceSub,Int.reduceEq,Int.reduceLT,Int.reduceLE,Int.reduceNe,Nat.reduceBneDiff,Nat.reduceBEq,decide_false,gt_iff_lt,Bool.or_self,Bool.false_eq_true,Nat.mul_one,Nat.one_mul,Nat.zero_mul,↓reduceIte,Nat.reduceEqDiff,Nat.reduceLT,Nat.reduceAdd,Nat.reduceLeDiff,reduceCtorEq,goInt,pairs,isConst,TI.isAgg,splice,boxS,Edp,dpv,Nat.beq_eq,ZV.val,List.any_cons,List.any_nil,Bool.false_and]
 exact downS_here h
theorem takeF_k (b : ByteArray) : ∀ (k i n : Nat),i ≤ b.size → match takeF b k i n with
  | .inl (_,j) => j ≤ b.size
  | .inr (_,q) => q ≤ b.size + 3
 | 0,i,n,h => by simp only [takeF]; omega
 | k + 1,i,n,h => by
  unfold takeF
  by_cases h1 : i = b.size
  ·rw [if_pos h1]; show i ≤ b.size + 3; omega
  ·rw [if_neg h1]
   by_cases h2 : bt b i < 128
   ·rw [if_pos h2]
    by_cases h3 : bt b i = 0 ∧ 0 < i
    ·rw [if_pos h3]; show i ≤ b.size + 3; omega
    ·rw [if_neg h3]; show i + 1 ≤ b.size; omega
   ·rw [if_neg h2]
    exact takeF_k b k (i + 1) _ (by omega)
theorem specTake {b : ByteArray} {Q : Value → AHeap → Prop} (hs : b.size ≤ 100000000) (hok : ∀ n k,takeF b 4 0 0 = .inl (n,k) → Q (.tuple #[.int .i64 (n : Int),.int .i64 (k : Int),.nilIface]) σ)
  (hbad : ∀ k q,takeF b 4 0 0 = .inr (k,q) → Q (.tuple #[.int .i64 0,.int .i64 0,fv 129 (q : Int) (sent (k + 1))]) σ) : CallS E B 52 [.string b] σ Q :=
 of_W (P := fun r => match takeF b 4 0 0 with | .inl (n,k) => r = .tuple #[.int .i64 (n : Int),.int .i64 (k : Int),.nilIface] | .inr (k,q) => r = .tuple #[.int .i64 0,.int .i64 0,fv 129 (q : Int) (sent (k + 1))])
  (fun H hB => (spec52 hB hs).mono fun r H' ⟨h1,h2⟩ => ⟨h1,by
    cases ht : takeF b 4 0 0 with
    | inl a => obtain ⟨n,k⟩ := a; rw [ht] at h2; exact h2
    | inr a => obtain ⟨k,q⟩ := a; rw [ht] at h2; obtain ⟨e,h3,h4⟩ := h2; rw [h3,h4]⟩)
  fun r h => by
   cases ht : takeF b 4 0 0 with
   | inl a => obtain ⟨n,k⟩ := a; rw [ht] at h; rw [h]; exact hok n k ht
   | inr a => obtain ⟨k,q⟩ := a; rw [ht] at h; rw [h]; exact hbad k q ht
theorem specRVar (hr : IsR σ r s p .nilIface) (hp : p ≤ s.size) (hs : s.size ≤ 100000000)
  (hok : ∀ n q,varR s p = .ok (n,q) → ∀ σ',Kept σ [r] σ' [r] → IsR σ' r s q .nilIface → Q (.int .i64 (n : Int)) σ')
  (hbad : ∀ e q,varR s p = .error (e,q) → ∀ σ',Kept σ [r] σ' [r] → RBad σ' r s p e q → Q (.int .i64 0) σ') : CallS E B 44 [.pointer (some ⟨r,0,none⟩)] σ Q := by
 have hr' := hr
 unfold IsR at hr'
 have hsl := AbsYtkhcbbpfchgemaaDoor.slice_from (E := E) (H := σ) ty9 (s := s) (k := p) hp
 have hbs : (s.extract p s.size).size ≤ 100000000 := by rw [ByteArray.size_extract]; omega
 refine call44 (by simp) ?_
 simp only [strip,bodyOf,Tryd.f44,getD_body,keepN,bareOp_mk,lessOp_mk,lapp_cons,lapp_nil,List.map_cons,List.map_nil,array_toList,↓reduceIte,Nat.reduceEqDiff,Bool.false_eq_true]
 simp (disch := first | assumption | simp) only [↓sbD,sbU,tyB,Nat.reduceMul,Nat.reduceSub,Int.reduceEq,Int.reduceLT,Int.reduceLE,Int.reduceNe,Nat.reduceBneDiff,Nat.reduceBEq,decide_false,gt_iff_lt,Bool.or_self,Bool.false_eq_true,Nat.mul_one,Nat.one_mul,Nat.zero_mul,↓reduceIte,Nat.reduceEqDiff,Nat.reduceLT,Nat.reduceAdd,Nat.reduceLeDiff,reduceCtorEq,goInt,pairs,isConst,TI.isAgg,splice,boxS,Edp,dpv,Nat.beq_eq,ZV.val,List.any_cons,List.any_nil,Bool.false_and]
 refine specROff hr ?_
 simp (disch := first | assumption | simp) only [↓sbD,sbU,tyB,Nat.reduceMul,Nat.reduceSub,Int.reduceEq,Int.reduceLT,Int.reduceLE,Int.reduceNe,Nat.reduceBneDiff,Nat.reduceBEq,decide_false,gt_iff_lt,Bool.or_self,Bool.false_eq_true,Nat.mul_one,Nat.one_mul,Nat.zero_mul,↓reduceIte,Nat.reduceEqDiff,Nat.reduceLT,Nat.reduceAdd,Nat.reduceLeDiff,reduceCtorEq,goInt,pairs,isConst,TI.isAgg,splice,boxS,Edp,dpv,Nat.beq_eq,ZV.val,List.any_cons,List.any_nil,Bool.false_and,hr',hsl]
 have hk := takeF_k (s.extract p s.size) 4 0 0 (by omega)
 refine specTake hbs (fun n k ht => ?_) fun k q ht => ?_
 ·rw [ht] at hk
  have hk : k ≤ (s.extract p s.size).size := hk
  have hw : IntKind.i64.wrap ((p : Int) + (k : Int)) = ((p + k : Nat) : Int) := by rw [wrap64 ⟨by omega,by omega⟩]; omega
  simp (disch := first | assumption | simp) only [↓sbD,sbU,tyB,Nat.reduceMul,Nat.reduceSub,Int.reduceEq,Int.reduceLT,Int.reduceLE,Int.reduceNe,Nat.reduceBneDiff,Nat.reduceBEq,decide_false,gt_iff_lt,Bool.or_self,Bool.false_eq_true,Nat.mul_one,Nat.one_mul,Nat.zero_mul,↓reduceIte,Nat.reduceEqDiff,Nat.reduceLT,Nat.reduceAdd,Nat.reduceLeDiff,reduceCtorEq,goInt,pairs,isConst,TI.isAgg,splice,boxS,Edp,dpv,Nat.beq_eq,ZV.val,List.any_cons,List.any_nil,Bool.false_and,hr',hw]
  exact downS_here (hok n (p + k) (by unfold varR; rw [ht]) _ (Kept.set (by simp)) (AHeap.get_set_same _ _ _))
 ·rw [ht] at hk
  have hk : q ≤ (s.extract p s.size).size + 3 := hk
  have hkd := takeF_kd _ _ _ _ _ _ ht
  simp (disch := first | assumption | simp) only [↓sbD,sbU,tyB,Nat.reduceMul,Nat.reduceSub,Int.reduceEq,Int.reduceLT,Int.reduceLE,Int.reduceNe,Nat.reduceBneDiff,Nat.reduceBEq,decide_false,gt_iff_lt,Bool.or_self,Bool.false_eq_true,Nat.mul_one,Nat.one_mul,Nat.zero_mul,↓reduceIte,Nat.reduceEqDiff,Nat.reduceLT,Nat.reduceAdd,Nat.reduceLeDiff,reduceCtorEq,goInt,pairs,isConst,TI.isAgg,splice,boxS,Edp,dpv,Nat.beq_eq,ZV.val,List.any_cons,List.any_nil,Bool.false_and,hr']
  refine specDeeper (n := q) (m := p) (by omega) (by omega) ?_
  simp (disch := first | assumption | simp) only [↓sbD,sbU,tyB,Nat.reduceMul,Nat.reduceSub,Int.reduceEq,Int.reduceLT,Int.reduceLE,Int.reduceNe,Nat.reduceBneDiff,Nat.reduceBEq,decide_false,gt_iff_lt,Bool.or_self,Bool.false_eq_true,Nat.mul_one,Nat.one_mul,Nat.zero_mul,↓reduceIte,Nat.reduceEqDiff,Nat.reduceLT,Nat.reduceAdd,Nat.reduceLeDiff,reduceCtorEq,goInt,pairs,isConst,TI.isAgg,splice,boxS,Edp,dpv,Nat.beq_eq,ZV.val,List.any_cons,List.any_nil,Bool.false_and,hr']
  exact downS_here (hbad (k + 1) (p + q) (by unfold varR; rw [ht]) _ (Kept.set (by simp)) ⟨2,_,by omega,ErN.deeper _ _ (ErN.new _ _ ⟨by omega,by omega⟩),AHeap.get_set_same _ _ _⟩)
theorem specRVarE {u : Nat} {x : Value} (hr : IsR σ r s p (.iface u x)) (h : Q (.int .i64 0) σ) : CallS E B 44 [.pointer (some ⟨r,0,none⟩)] σ Q := by
 refine call44 (by simp) ?_
 simp only [strip,bodyOf,Tryd.f44,getD_body,keepN,bareOp_mk,lessOp_mk,lapp_cons,lapp_nil,List.map_cons,List.map_nil,array_toList,↓reduceIte,Nat.reduceEqDiff,Bool.false_eq_true]
 simp (disch := first | assumption | simp) only [↓sbD,sbU,tyB,Nat.reduceMul,Nat.reduceSub,Int.reduceEq,Int.reduceLT,Int.reduceLE,Int.reduceNe,Nat.reduceBneDiff,Nat.reduceBEq,decide_false,gt_iff_lt,Bool.or_self,Bool.false_eq_true,Nat.mul_one,Nat.one_mul,Nat.zero_mul,↓reduceIte,Nat.reduceEqDiff,Nat.reduceLT,Nat.reduceAdd,Nat.reduceLeDiff,reduceCtorEq,goInt,pairs,isConst,TI.isAgg,splice,boxS,Edp,dpv,Nat.beq_eq,ZV.val,List.any_cons,List.any_nil,Bool.false_and]
 refine specROffE hr ?_
 simp (disch := first | assumption | simp) only [↓sbD,sbU,tyB,Nat.reduceMul,Nat.reduceSub,Int.reduceEq,Int.reduceLT,Int.reduceLE,Int.reduceNe,Nat.reduceBneDiff,Nat.reduceBEq,decide_false,gt_iff_lt,Bool.or_self,Bool.false_eq_true,Nat.mul_one,Nat.one_mul,Nat.zero_mul,↓reduceIte,Nat.reduceEqDiff,Nat.reduceLT,Nat.reduceAdd,Nat.reduceLeDiff,reduceCtorEq,goInt,pairs,isConst,TI.isAgg,splice,boxS,Edp,dpv,Nat.beq_eq,ZV.val,List.any_cons,List.any_nil,Bool.false_and]
 exact downS_here h
theorem numR_ok {n q k : Nat} (h : numR s p k = .ok (n,q)) : q = p + k ∧ q ≤ s.size := by
 unfold numR at h
 cases hb : rawR s p k with
 | error e => rw [hb] at h; cases h
 | ok a =>
  obtain ⟨b,q'⟩ := a
  rw [hb] at h
  injection h with h; injection h with h1 h2; subst h2
  have := rawR_ok hb
  rw [Int.toNat_natCast] at this
  exact ⟨this.2.2.1,this.2.2.2.1⟩
theorem specRBin (hr : IsR σ r s p .nilIface) (hp : p ≤ s.size) (hs : s.size ≤ 1000000000)
  (hok : ∀ v q,binR s p = .ok (v,q) → ∀ σ',Kept σ [r] σ' [r] → IsR σ' r s q .nilIface → Q (.string v) σ')
  (hbad : ∀ e q,binR s p = .error (e,q) → ∀ σ',Kept σ [r] σ' [r] → RBad σ' r s p e q → Q (.string emp) σ') : CallS E B 17 [.pointer (some ⟨r,0,none⟩)] σ Q := by
 refine call17 (by simp) ?_
 simp only [strip,bodyOf,Tryd.f17,getD_body,keepN,bareOp_mk,lessOp_mk,lapp_cons,lapp_nil,List.map_cons,List.map_nil,array_toList,↓reduceIte,Nat.reduceEqDiff,Bool.false_eq_true]
 simp (disch := first | assumption | simp) only [↓sbD,sbU,tyB,Nat.reduceMul,Nat.reduceSub,Int.reduceEq,Int.reduceLT,Int.reduceLE,Int.reduceNe,Nat.reduceBneDiff,Nat.reduceBEq,decide_false,gt_iff_lt,Bool.or_self,Bool.false_eq_true,Nat.mul_one,Nat.one_mul,Nat.zero_mul,↓reduceIte,Nat.reduceEqDiff,Nat.reduceLT,Nat.reduceAdd,Nat.reduceLeDiff,reduceCtorEq,goInt,pairs,isConst,TI.isAgg,splice,boxS,Edp,dpv,Nat.beq_eq,ZV.val,List.any_cons,List.any_nil,Bool.false_and]
 refine specRAt hr ?_
 simp (disch := first | assumption | simp) only [↓sbD,sbU,tyB,Nat.reduceMul,Nat.reduceSub,Int.reduceEq,Int.reduceLT,Int.reduceLE,Int.reduceNe,Nat.reduceBneDiff,Nat.reduceBEq,decide_false,gt_iff_lt,Bool.or_self,Bool.false_eq_true,Nat.mul_one,Nat.one_mul,Nat.zero_mul,↓reduceIte,Nat.reduceEqDiff,Nat.reduceLT,Nat.reduceAdd,Nat.reduceLeDiff,reduceCtorEq,goInt,pairs,isConst,TI.isAgg,splice,boxS,Edp,dpv,Nat.beq_eq,ZV.val,List.any_cons,List.any_nil,Bool.false_and]
 refine specRU16 hr hp hs (fun n q hn σ1 k1 i1 => ?_) fun e q hn σ1 k1 i1 => ?_
 ·obtain ⟨_,hq⟩ := numR_ok hn
  simp (disch := first | assumption | simp) only [↓sbD,sbU,tyB,Nat.reduceMul,Nat.reduceSub,Int.reduceEq,Int.reduceLT,Int.reduceLE,Int.reduceNe,Nat.reduceBneDiff,Nat.reduceBEq,decide_false,gt_iff_lt,Bool.or_self,Bool.false_eq_true,Nat.mul_one,Nat.one_mul,Nat.zero_mul,↓reduceIte,Nat.reduceEqDiff,Nat.reduceLT,Nat.reduceAdd,Nat.reduceLeDiff,reduceCtorEq,goInt,pairs,isConst,TI.isAgg,splice,boxS,Edp,dpv,Nat.beq_eq,ZV.val,List.any_cons,List.any_nil,Bool.false_and]
  refine specRRaw i1 hq hs (fun v q2 hv σ2 k2 i2 => ?_) fun e q2 hv σ2 k2 i2 => ?_
  ·simp (disch := first | assumption | simp) only [↓sbD,sbU,tyB,Nat.reduceMul,Nat.reduceSub,Int.reduceEq,Int.reduceLT,Int.reduceLE,Int.reduceNe,Nat.reduceBneDiff,Nat.reduceBEq,decide_false,gt_iff_lt,Bool.or_self,Bool.false_eq_true,Nat.mul_one,Nat.one_mul,Nat.zero_mul,↓reduceIte,Nat.reduceEqDiff,Nat.reduceLT,Nat.reduceAdd,Nat.reduceLeDiff,reduceCtorEq,goInt,pairs,isConst,TI.isAgg,splice,boxS,Edp,dpv,Nat.beq_eq,ZV.val,List.any_cons,List.any_nil,Bool.false_and]
   refine specBack i2 ?_
   simp (disch := first | assumption | simp) only [↓sbD,sbU,tyB,Nat.reduceMul,Nat.reduceSub,Int.reduceEq,Int.reduceLT,Int.reduceLE,Int.reduceNe,Nat.reduceBneDiff,Nat.reduceBEq,decide_false,gt_iff_lt,Bool.or_self,Bool.false_eq_true,Nat.mul_one,Nat.one_mul,Nat.zero_mul,↓reduceIte,Nat.reduceEqDiff,Nat.reduceLT,Nat.reduceAdd,Nat.reduceLeDiff,reduceCtorEq,goInt,pairs,isConst,TI.isAgg,splice,boxS,Edp,dpv,Nat.beq_eq,ZV.val,List.any_cons,List.any_nil,Bool.false_and]
   exact downS_here (hok v q2 (by unfold binR; rw [hn]; exact hv) σ2 (k1.trans k2) i2)
  ·obtain ⟨d,z,hd,he,i3⟩ := i2
   simp (disch := first | assumption | simp) only [↓sbD,sbU,tyB,Nat.reduceMul,Nat.reduceSub,Int.reduceEq,Int.reduceLT,Int.reduceLE,Int.reduceNe,Nat.reduceBneDiff,Nat.reduceBEq,decide_false,gt_iff_lt,Bool.or_self,Bool.false_eq_true,Nat.mul_one,Nat.one_mul,Nat.zero_mul,↓reduceIte,Nat.reduceEqDiff,Nat.reduceLT,Nat.reduceAdd,Nat.reduceLeDiff,reduceCtorEq,goInt,pairs,isConst,TI.isAgg,splice,boxS,Edp,dpv,Nat.beq_eq,ZV.val,List.any_cons,List.any_nil,Bool.false_and]
   refine specBackE (q := p) i3 fun σ3 k3 i4 => ?_
   simp (disch := first | assumption | simp) only [↓sbD,sbU,tyB,Nat.reduceMul,Nat.reduceSub,Int.reduceEq,Int.reduceLT,Int.reduceLE,Int.reduceNe,Nat.reduceBneDiff,Nat.reduceBEq,decide_false,gt_iff_lt,Bool.or_self,Bool.false_eq_true,Nat.mul_one,Nat.one_mul,Nat.zero_mul,↓reduceIte,Nat.reduceEqDiff,Nat.reduceLT,Nat.reduceAdd,Nat.reduceLeDiff,reduceCtorEq,goInt,pairs,isConst,TI.isAgg,splice,boxS,Edp,dpv,Nat.beq_eq,ZV.val,List.any_cons,List.any_nil,Bool.false_and]
   exact downS_here (hbad e q2 (by unfold binR; rw [hn]; exact hv) σ3 ((k1.trans k2).trans k3) ⟨d,z,hd,he,i4⟩)
 ·obtain ⟨d,z,hd,he,i3⟩ := i1
  simp (disch := first | assumption | simp) only [↓sbD,sbU,tyB,Nat.reduceMul,Nat.reduceSub,Int.reduceEq,Int.reduceLT,Int.reduceLE,Int.reduceNe,Nat.reduceBneDiff,Nat.reduceBEq,decide_false,gt_iff_lt,Bool.or_self,Bool.false_eq_true,Nat.mul_one,Nat.one_mul,Nat.zero_mul,↓reduceIte,Nat.reduceEqDiff,Nat.reduceLT,Nat.reduceAdd,Nat.reduceLeDiff,reduceCtorEq,goInt,pairs,isConst,TI.isAgg,splice,boxS,Edp,dpv,Nat.beq_eq,ZV.val,List.any_cons,List.any_nil,Bool.false_and]
  refine specRRawE i3 ?_
  simp (disch := first | assumption | simp) only [↓sbD,sbU,tyB,Nat.reduceMul,Nat.reduceSub,Int.reduceEq,Int.reduceLT,Int.reduceLE,Int.reduceNe,Nat.reduceBneDiff,Nat.reduceBEq,decide_false,gt_iff_lt,Bool.or_self,Bool.false_eq_true,Nat.mul_one,Nat.one_mul,Nat.zero_mul,↓reduceIte,Nat.reduceEqDiff,Nat.reduceLT,Nat.reduceAdd,Nat.reduceLeDiff,reduceCtorEq,goInt,pairs,isConst,TI.isAgg,splice,boxS,Edp,dpv,Nat.beq_eq,ZV.val,List.any_cons,List.any_nil,Bool.false_and]
  refine specBackE (q := p) i3 fun σ3 k3 i4 => ?_
  simp (disch := first | assumption | simp) only [↓sbD,sbU,tyB,Nat.reduceMul,Nat.reduceSub,Int.reduceEq,Int.reduceLT,Int.reduceLE,Int.reduceNe,Nat.reduceBneDiff,Nat.reduceBEq,decide_false,gt_iff_lt,Bool.or_self,Bool.false_eq_true,Nat.mul_one,Nat.one_mul,Nat.zero_mul,↓reduceIte,Nat.reduceEqDiff,Nat.reduceLT,Nat.reduceAdd,Nat.reduceLeDiff,reduceCtorEq,goInt,pairs,isConst,TI.isAgg,splice,boxS,Edp,dpv,Nat.beq_eq,ZV.val,List.any_cons,List.any_nil,Bool.false_and]
  exact downS_here (hbad e q (by unfold binR; rw [hn]) σ3 (k1.trans k3) ⟨d,z,hd,he,i4⟩)
theorem specRBinE {u : Nat} {x : Value} (hr : IsR σ r s p (.iface u x)) (h : ∀ σ',Kept σ [r] σ' [r] → IsR σ' r s p (.iface u x) → Q (.string emp) σ') : CallS E B 17 [.pointer (some ⟨r,0,none⟩)] σ Q := by
 refine call17 (by simp) ?_
 simp only [strip,bodyOf,Tryd.f17,getD_body,keepN,bareOp_mk,lessOp_mk,lapp_cons,lapp_nil,List.map_cons,List.map_nil,array_toList,↓reduceIte,Nat.reduceEqDiff,Bool.false_eq_true]
 simp (disch := first | assumption | simp) only [↓sbD,sbU,tyB,Nat.reduceMul,Nat.reduceSub,Int.reduceEq,Int.reduceLT,Int.reduceLE,Int.reduceNe,Nat.reduceBneDiff,Nat.reduceBEq,decide_false,gt_iff_lt,Bool.or_self,Bool.false_eq_true,Nat.mul_one,Nat.one_mul,Nat.zero_mul,↓reduceIte,Nat.reduceEqDiff,Nat.reduceLT,Nat.reduceAdd,Nat.reduceLeDiff,reduceCtorEq,goInt,pairs,isConst,TI.isAgg,splice,boxS,Edp,dpv,Nat.beq_eq,ZV.val,List.any_cons,List.any_nil,Bool.false_and]
 refine specRAt hr ?_
 simp (disch := first | assumption | simp) only [↓sbD,sbU,tyB,Nat.reduceMul,Nat.reduceSub,Int.reduceEq,Int.reduceLT,Int.reduceLE,Int.reduceNe,Nat.reduceBneDiff,Nat.reduceBEq,decide_false,gt_iff_lt,Bool.or_self,Bool.false_eq_true,Nat.mul_one,Nat.one_mul,Nat.zero_mul,↓reduceIte,Nat.reduceEqDiff,Nat.reduceLT,Nat.reduceAdd,Nat.reduceLeDiff,reduceCtorEq,goInt,pairs,isConst,TI.isAgg,splice,boxS,Edp,dpv,Nat.beq_eq,ZV.val,List.any_cons,List.any_nil,Bool.false_and]
 refine specRU16E hr ?_
 simp (disch := first | assumption | simp) only [↓sbD,sbU,tyB,Nat.reduceMul,Nat.reduceSub,Int.reduceEq,Int.reduceLT,Int.reduceLE,Int.reduceNe,Nat.reduceBneDiff,Nat.reduceBEq,decide_false,gt_iff_lt,Bool.or_self,Bool.false_eq_true,Nat.mul_one,Nat.one_mul,Nat.zero_mul,↓reduceIte,Nat.reduceEqDiff,Nat.reduceLT,Nat.reduceAdd,Nat.reduceLeDiff,reduceCtorEq,goInt,pairs,isConst,TI.isAgg,splice,boxS,Edp,dpv,Nat.beq_eq,ZV.val,List.any_cons,List.any_nil,Bool.false_and]
 refine specRRawE hr ?_
 simp (disch := first | assumption | simp) only [↓sbD,sbU,tyB,Nat.reduceMul,Nat.reduceSub,Int.reduceEq,Int.reduceLT,Int.reduceLE,Int.reduceNe,Nat.reduceBneDiff,Nat.reduceBEq,decide_false,gt_iff_lt,Bool.or_self,Bool.false_eq_true,Nat.mul_one,Nat.one_mul,Nat.zero_mul,↓reduceIte,Nat.reduceEqDiff,Nat.reduceLT,Nat.reduceAdd,Nat.reduceLeDiff,reduceCtorEq,goInt,pairs,isConst,TI.isAgg,splice,boxS,Edp,dpv,Nat.beq_eq,ZV.val,List.any_cons,List.any_nil,Bool.false_and]
 refine specBackE (q := p) hr fun σ3 k3 i4 => ?_
 simp (disch := first | assumption | simp) only [↓sbD,sbU,tyB,Nat.reduceMul,Nat.reduceSub,Int.reduceEq,Int.reduceLT,Int.reduceLE,Int.reduceNe,Nat.reduceBneDiff,Nat.reduceBEq,decide_false,gt_iff_lt,Bool.or_self,Bool.false_eq_true,Nat.mul_one,Nat.one_mul,Nat.zero_mul,↓reduceIte,Nat.reduceEqDiff,Nat.reduceLT,Nat.reduceAdd,Nat.reduceLeDiff,reduceCtorEq,goInt,pairs,isConst,TI.isAgg,splice,boxS,Edp,dpv,Nat.beq_eq,ZV.val,List.any_cons,List.any_nil,Bool.false_and]
 exact downS_here (h σ3 k3 i4)
end
end Go.Proofs.YtkhcbbpfchgemaaDoor.AbsB
