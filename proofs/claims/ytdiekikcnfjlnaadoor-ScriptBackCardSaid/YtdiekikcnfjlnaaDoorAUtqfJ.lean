/-
  Parts of a law's proof.
-/
import Derived.Test.YtdiekikcnfjlnaaDoorAVaqfJ
namespace Go.Proofs.YtdiekikcnfjlnaaDoor.AbsA
open Go AbsYtdiekikcnfjlnaaDoor Abs
set_option maxHeartbeats 4000000
set_option linter.unusedSimpArgs false
set_option linter.unusedVariables false

set_option maxRecDepth 100000
set_option maxHeartbeats 1000000
set_option linter.unusedSimpArgs false
set_option linter.unusedVariables false
theorem ba_ext {a b : ByteArray} (hs : a.size = b.size) (h : ∀ j,j < a.size → bt a j = bt b j) : a = b := by
 apply ByteArray.ext
 apply Array.ext
 ·exact hs
 ·intro i h1 h2
  have e := h i h1
  have e1 : a[i]? = some (a[i]'h1) := getElem?_pos a i h1
  have e2 : b[i]? = some (b[i]'h2) := getElem?_pos b i h2
  unfold bt at e
  rw [e1,e2] at e
  exact UInt8.toNat_inj.1 e

set_option maxRecDepth 100000
set_option maxHeartbeats 1000000
set_option linter.unusedSimpArgs false
set_option linter.unusedVariables false
set_option maxRecDepth 100000
theorem gk1 : B.get 2 = .cells [sent 1] false 1 := by kernel_rfl
theorem gk2 : B.get 3 = .cells [sent 2] false 1 := by kernel_rfl
theorem gk4 : B.get 0 = .cells [sent 4] false 1 := by kernel_rfl
theorem gk7 : B.get 1 = .cells [sent 7] false 1 := by kernel_rfl
theorem bytesOf_len (w : ByteArray) : (bytesOf w).length = w.size := by
 show (w.data.toList.map _).length = w.data.size
 rw [List.length_map,Array.length_toList]
theorem bytesOf_app (a b : ByteArray) : bytesOf (a ++ b) = bytesOf a ++ bytesOf b := by simp [bytesOf,ByteArray.data_append]
theorem bytesOf_str {l : List Nat} (h : ∀ n ∈ l,n < 256) : bytesOf (str l) = u8s l := by
 simp only [bytesOf,str,u8s,List.map_map]
 apply List.map_congr_left
 intro n hn
 have := h n hn
 simp only [Function.comp,UInt8.toNat_ofNat']
 congr 2
 omega
theorem bytesOf_mapM (w : ByteArray) : (bytesOf w).mapM byteOfV = some w.data.toList := by
 have : ∀ l : List UInt8,(l.map fun b : UInt8 => Value.int .u8 (b.toNat : Int)).mapM byteOfV = some l := by
  intro l
  induction l with
  | nil => rfl
  | cons b l ih => rw [List.map_cons,List.mapM_cons,ih]; simp [byteOfV]
 exact this _
theorem oc_bytes (w : ByteArray) : (bytesOf w).all oneCell = true := by
 rw [List.all_eq_true]
 intro v hv
 simp only [bytesOf,List.mem_map] at hv
 obtain ⟨b,_,rfl⟩ := hv
 rfl
theorem size_app (a b : ByteArray) : (a ++ b).size = a.size + b.size := ByteArray.size_append
structure Kept (σ : AHeap) (fp : List Nat) (σ' : AHeap) (fp' : List Nat) : Prop where
 get : ∀ b,σ.get b ≠ .dead → b ∉ fp → σ'.get b = σ.get b
 new : ∀ b,b ∈ fp' → b ∈ fp ∨ σ.get b = .dead
theorem Kept.refl (σ : AHeap) (fp : List Nat) : Kept σ fp σ fp := ⟨fun _ _ _ => rfl,fun _ h => .inl h⟩
theorem Kept.trans {σ σ' σ'' : AHeap} {fp fp' fp'' : List Nat} (h : Kept σ fp σ' fp') (k : Kept σ' fp' σ'' fp'') : Kept σ fp σ'' fp'' where
 get b hb hn := by
  have h1 := h.get b hb hn
  rw [k.get b (by rw [h1]; exact hb) (fun hm => by rcases h.new b hm with h2 | h2; exact hn h2; exact hb h2),h1]
 new b hb := by
  rcases k.new b hb with h1 | h1
  ·exact h.new b h1
  ·by_cases hd : σ.get b = .dead
   ·exact .inr hd
   ·by_cases hn : b ∈ fp
    ·exact .inl hn
    ·rw [h.get b hd hn] at h1; exact .inr h1
theorem Kept.at {σ σ' : AHeap} {fp fp' : List Nat} (h : Kept σ fp σ' fp') {b : Nat} {o : AObj} (hg : σ.get b = o) (ho : o ≠ .dead) (hn : b ∉ fp) : σ'.get b = o ∧ b ∉ fp' :=
 ⟨by rw [h.get b (by rw [hg]; exact ho) hn,hg],fun hm => by rcases h.new b hm with h2 | h2; exact hn h2; rw [h2] at hg; exact ho hg.symm⟩
theorem Kept.more {σ σ' : AHeap} {fp fp' l : List Nat} (h : Kept σ fp σ' fp') : Kept σ (l ++ fp) σ' (l ++ fp') where
 get b hb hn := h.get b hb (fun hm => hn (List.mem_append_right _ hm))
 new b hb := by
  rcases List.mem_append.1 hb with h1 | h1
  ·exact .inl (List.mem_append_left _ h1)
  ·rcases h.new b h1 with h2 | h2
   ·exact .inl (List.mem_append_right _ h2)
   ·exact .inr h2
theorem Kept.set {σ : AHeap} {fp : List Nat} {b : Nat} {o : AObj} (hb : b ∈ fp) : Kept σ fp (σ.set b o) fp :=
 ⟨fun c _ hn => AHeap.get_set_ne _ _ (by rintro rfl; exact hn hb),fun _ h => .inl h⟩
theorem Kept.new' {σ : AHeap} {b : Nat} {o : AObj} (hb : σ.get b = .dead) : Kept σ [] (σ.set b o) [b] :=
 ⟨fun c hc _ => AHeap.get_set_ne _ _ (by rintro rfl; exact hc hb),fun c hc => by obtain rfl := List.mem_singleton.1 hc; exact .inr hb⟩
def BS (σ : AHeap) (v : Value) (a : ByteArray) (fp : List Nat) : Prop :=
 (a.size = 0 ∧ v = .slice none 0 0 ∧ fp = []) ∨ ∃ d,v = .slice (some ⟨d,0,none⟩) a.size a.size ∧ σ.get d = .cells (bytesOf a) true 1 ∧ fp = [d] ∧ 0 < a.size
theorem BS.kept {σ σ' : AHeap} {v : Value} {a : ByteArray} {fp gp gp' : List Nat} (h : BS σ v a fp) (k : Kept σ gp σ' gp') (hd : ∀ b ∈ fp,b ∉ gp) : BS σ' v a fp := by
 rcases h with h | ⟨d,h1,h2,h3,h4⟩
 ·exact .inl h
 ·exact .inr ⟨d,h1,by rw [k.get d (by rw [h2]; simp) (hd d (by rw [h3]; simp))]; exact h2,h3,h4⟩
theorem BS.set {σ : AHeap} {v : Value} {a : ByteArray} {fp : List Nat} (h : BS σ v a fp) {w : Nat} {o : AObj} (hw : w ∉ fp) : BS (σ.set w o) v a fp :=
 h.kept (Kept.set (fp := [w]) (by simp)) fun b hb hm => hw (by obtain rfl := List.mem_singleton.1 hm; exact hb)
theorem get_resize {σ : AHeap} {n b : Nat} : (σ.resize n).get b = σ.get b := rfl
theorem app_bytes {σ : AHeap} {K : Value → AHeap → Prop} {v x : Value} {a m : ByteArray} {fp : List Nat} {u : Nat} (hv : BS σ v a fp) (hx : ∀ b,srcCells (σ.resize b) 1 x = some (m.size,bytesOf m)) (hu : u = 9 ∨ u = 43)
  (hz : a.size + m.size ≤ 100000000) (hq : ∀ σ' v' fp',Kept σ fp σ' fp' → BS σ' v' (a ++ m) fp' → K v' σ') :
  afterOpS E B (some (.any fun b => aappend E (σ.resize b) [43,u] [v,x])) σ K := by
 intro b hb
 have hbd : σ.get b = .dead := by
  rcases hg : σ.get b with _ | _ | _
  ·rfl
  ·exact absurd (hb b (by rw [hg]; simp)) (Nat.lt_irrefl _)
  ·exact absurd (hb b (by rw [hg]; simp)) (Nat.lt_irrefl _)
 have hz5 : azero E 5 = some [.int .u8 0] := rfl
 have hiu : ∃ iu,E.ty.get u = some iu ∧ iu.k.isInt = false := by rcases hu with rfl | rfl <;> exact ⟨_,rfl,rfl⟩
 obtain ⟨iu,hiu,hki⟩ := hiu
 have hnew := oc_bytes m
 rcases hv with ⟨h1,rfl,rfl⟩ | ⟨d,rfl,hd,rfl,ha⟩
 ·have e0 : bytesOf a = [] := List.eq_nil_of_length_eq_zero (by rw [bytesOf_len,h1])
  by_cases hm : m.size = 0
  ·refine ⟨.slice none 0 0,σ.resize b,?_,hq _ _ [] ⟨fun c _ _ => rfl,fun _ h => by cases h⟩ (.inl ⟨by rw [size_app]; omega,rfl,rfl⟩)⟩
   simp only [aappend,ty43,ty5,hiu,hz5,hx b,hki,hm]
   rfl
  ·refine ⟨.slice (some ⟨b,0,none⟩) m.size m.size,(σ.resize b).alloc (.cells (bytesOf m) true 1),?_,hq _ _ [b] ?_ (.inr ⟨b,?_,?_,rfl,by rw [size_app]; omega⟩)⟩
   ·simp only [aappend,ty43,ty5,hiu,hz5,hx b,hki]
    have c1 : m.size * 1 ≤ 140737488355328 := by omega
    simp only [hm,hnew,c1,dpB,decide_true,Bool.and_self,if_true,if_false,Bool.false_eq_true]
    rfl
   ·exact ⟨fun c hc _ => AHeap.get_alloc_ne _ _ (by intro e; subst e; exact hc hbd),fun c hc => by obtain rfl := List.mem_singleton.1 hc; exact .inr hbd⟩
   ·rw [size_app,h1,Nat.zero_add]
   ·rw [bytesOf_app,e0,List.nil_append]; exact AHeap.get_alloc_same (σ.resize b) _
 ·by_cases hm : m.size = 0
  ·have e0 : bytesOf m = [] := List.eq_nil_of_length_eq_zero (by rw [bytesOf_len,hm])
   refine ⟨.slice (some ⟨d,0,none⟩) a.size a.size,σ.resize b,?_,hq _ _ [d] ⟨fun c _ _ => rfl,fun _ h => .inl h⟩ (.inr ⟨d,?_,?_,rfl,by rw [size_app]; omega⟩)⟩
   ·simp only [aappend,ty43,ty5,hiu,hz5,hx b,hki,hm,get_resize,hd]
    simp
   ·rw [size_app,hm,Nat.add_zero]
   ·rw [bytesOf_app,e0,List.append_nil]; exact hd
  ·refine ⟨.slice (some ⟨b,0,none⟩) (a.size + m.size) (a.size + m.size),((σ.resize b).set d .dead).alloc (.cells (bytesOf a ++ bytesOf m) true 1),?_,hq _ _ [b] ?_ (.inr ⟨b,?_,?_,rfl,by rw [size_app]; omega⟩)⟩
   ·simp only [aappend,ty43,ty5,hiu,hz5,hx b,hki,get_resize,hd]
    have c1 : a.size + m.size ≤ 140737488355328 := by omega
    have c2 : ¬ a.size + m.size ≤ a.size := by omega
    have c3 : (bytesOf a).length = a.size := bytesOf_len a
    simp only [hm,hnew,c1,c2,dpB,decide_true,Bool.and_self,if_true,if_false,Bool.false_eq_true,Nat.zero_add,Nat.mul_one,c3,and_self,List.drop_zero]
    rfl
   ·have hdb : d ≠ b := by rintro rfl; rw [hbd] at hd; cases hd
    refine ⟨fun c hc hn => ?_,fun c hc => by obtain rfl := List.mem_singleton.1 hc; exact .inr hbd⟩
    show (((σ.resize b).set d .dead).alloc _).get c = σ.get c
    rw [AHeap.get_alloc_ne _ _ (by intro e; exact hc (by rw [← e]; exact hbd)),AHeap.get_set_ne _ _ (by rintro rfl; exact hn (by simp))]
    rfl
   ·rw [size_app]
   ·rw [bytesOf_app]; exact AHeap.get_alloc_same ((σ.resize b).set d .dead) _
theorem src_str {σ : AHeap} {s : ByteArray} : srcCells σ 1 (.string s) = some (s.size,bytesOf s) := by simp only [srcCells,if_true]; rfl
theorem conv_BS {σ : AHeap} {v : Value} {a : ByteArray} {fp : List Nat} {K : Value → AHeap → Prop} (h : BS σ v a fp) (hq : K (.string a) σ) : afterOpS E B (some (convS E σ 43 9 v)) σ K := by
 have ea : (⟨a.data.toList.toArray⟩ : ByteArray) = a := rfl
 rcases h with ⟨h1,rfl,rfl⟩ | ⟨d,rfl,hd,rfl,ha⟩
 ·have : a = ByteArray.empty := by
   obtain ⟨a⟩ := a
   have : a.size = 0 := h1
   rw [Array.eq_empty_of_size_eq_zero this]; rfl
  rw [this] at hq
  exact hq
 ·have hl : (bytesOf a).length = a.size := bytesOf_len a
  intro b hb
  refine ⟨.string a,σ.resize b,?_,hq⟩
  simp only [aconvert,ty43,ty9,ty5,takeCells,get_resize,hd]
  rw [if_pos (by rw [hl]; omega)]
  simp only [List.drop_zero]
  rw [List.take_of_length_le (by rw [hl]; omega),bytesOf_mapM]
  simp
def IsW (σ : AHeap) (w : Nat) (a : ByteArray) (e : Value) (fp : List Nat) : Prop := ∃ v gp,σ.get w = .cells [v,e] true 0 ∧ BS σ v a gp ∧ fp = w :: gp ∧ w ∉ gp
theorem IsW.kept {σ σ' : AHeap} {w : Nat} {a : ByteArray} {e : Value} {fp gp gp' : List Nat} (h : IsW σ w a e fp) (k : Kept σ gp σ' gp') (hd : ∀ b ∈ fp,b ∉ gp) : IsW σ' w a e fp := by
 obtain ⟨v,hp,h1,h2,rfl,h4⟩ := h
 exact ⟨v,hp,by rw [k.get w (by rw [h1]; simp) (hd w (by simp))]; exact h1,h2.kept k fun b hb => hd b (List.mem_cons_of_mem _ hb),rfl,h4⟩
theorem BS.vc {σ : AHeap} {v : Value} {a : ByteArray} {fp : List Nat} (h : BS σ v a fp) : vcells v = [v] ∧ oneCell v = true := by
 rcases h with ⟨_,rfl,_⟩ | ⟨d,rfl,_⟩ <;> exact ⟨rfl,rfl⟩
def unit : Value := .tuple #[]
theorem specOff {σ : AHeap} {w : Nat} {a : ByteArray} {fp : List Nat} (hw : IsW σ w a .nilIface fp) {Q : Value → AHeap → Prop} (h : Q (.bool false) σ) : CallS E B 26 [.pointer (some ⟨w,0,none⟩)] σ Q := by
 obtain ⟨v,gp,h1,h2,h3,h4⟩ := hw
 refine call26 (by simp) ?_
 simp only [strip,bodyOf,Tryd.f26,getD_body,keepN,bareOp_mk,lessOp_mk,lapp_cons,lapp_nil,List.map_cons,List.map_nil,array_toList,↓reduceIte,Nat.reduceEqDiff,Bool.false_eq_true]
 simp (disch := first | assumption | simp) only [↓sbD,sbU,tyB,Nat.reduceMul,Nat.reduceSub,Int.reduceEq,Int.reduceLT,Int.reduceLE,Int.reduceNe,Nat.reduceBneDiff,Nat.reduceBEq,decide_false,gt_iff_lt,Bool.or_self,Bool.false_eq_true,Nat.mul_one,Nat.one_mul,Nat.zero_mul,↓reduceIte,Nat.reduceEqDiff,Nat.reduceLT,Nat.reduceAdd,Nat.reduceLeDiff,reduceCtorEq,goInt,pairs,isConst,TI.isAgg,splice,boxS,Edp,dpv,Nat.beq_eq,ZV.val,List.any_cons,List.any_nil,Bool.false_and,h1]
 exact downS_here h
theorem specOffE {σ : AHeap} {w u : Nat} {x : Value} {a : ByteArray} {fp : List Nat} (hw : IsW σ w a (.iface u x) fp) {Q : Value → AHeap → Prop} (h : Q (.bool true) σ) : CallS E B 26 [.pointer (some ⟨w,0,none⟩)] σ Q := by
 obtain ⟨v,gp,h1,h2,h3,h4⟩ := hw
 refine call26 (by simp) ?_
 simp only [strip,bodyOf,Tryd.f26,getD_body,keepN,bareOp_mk,lessOp_mk,lapp_cons,lapp_nil,List.map_cons,List.map_nil,array_toList,↓reduceIte,Nat.reduceEqDiff,Bool.false_eq_true]
 simp (disch := first | assumption | simp) only [↓sbD,sbU,tyB,Nat.reduceMul,Nat.reduceSub,Int.reduceEq,Int.reduceLT,Int.reduceLE,Int.reduceNe,Nat.reduceBneDiff,Nat.reduceBEq,decide_false,gt_iff_lt,Bool.or_self,Bool.false_eq_true,Nat.mul_one,Nat.one_mul,Nat.zero_mul,↓reduceIte,Nat.reduceEqDiff,Nat.reduceLT,Nat.reduceAdd,Nat.reduceLeDiff,reduceCtorEq,goInt,pairs,isConst,TI.isAgg,splice,boxS,Edp,dpv,Nat.beq_eq,ZV.val,List.any_cons,List.any_nil,Bool.false_and,h1]
 exact downS_here h
theorem specFail {σ : AHeap} {w u : Nat} {x e : Value} {a : ByteArray} {fp : List Nat} (hw : IsW σ w a e fp) {Q : Value → AHeap → Prop} (h : ∀ σ',Kept σ fp σ' fp → IsW σ' w a (.iface u x) fp → Q unit σ') : CallS E B 38 [.pointer (some ⟨w,0,none⟩),.iface u x] σ Q := by
 obtain ⟨v,gp,h1,h2,rfl,h4⟩ := hw
 refine call38 (by simp) ?_
 simp only [strip,bodyOf,Tryd.f38,getD_body,keepN,bareOp_mk,lessOp_mk,lapp_cons,lapp_nil,List.map_cons,List.map_nil,array_toList,↓reduceIte,Nat.reduceEqDiff,Bool.false_eq_true]
 simp (disch := first | assumption | simp) only [↓sbD,sbU,tyB,Nat.reduceMul,Nat.reduceSub,Int.reduceEq,Int.reduceLT,Int.reduceLE,Int.reduceNe,Nat.reduceBneDiff,Nat.reduceBEq,decide_false,gt_iff_lt,Bool.or_self,Bool.false_eq_true,Nat.mul_one,Nat.one_mul,Nat.zero_mul,↓reduceIte,Nat.reduceEqDiff,Nat.reduceLT,Nat.reduceAdd,Nat.reduceLeDiff,reduceCtorEq,goInt,pairs,isConst,TI.isAgg,splice,boxS,Edp,dpv,Nat.beq_eq,ZV.val,List.any_cons,List.any_nil,Bool.false_and,h1]
 exact downS_here (h _ (Kept.set (by simp)) ⟨v,gp,AHeap.get_set_same _ _ _,h2.set h4,rfl,h4⟩)
theorem specFirst {σ : AHeap} {w : Nat} {e : Value} {a : ByteArray} {fp : List Nat} (hw : IsW σ w a e fp) {Q : Value → AHeap → Prop} (h : Q e σ) : CallS E B 28 [.pointer (some ⟨w,0,none⟩)] σ Q := by
 obtain ⟨v,gp,h1,h2,rfl,h4⟩ := hw
 refine call28 (by simp) ?_
 simp only [strip,bodyOf,Tryd.f28,getD_body,keepN,bareOp_mk,lessOp_mk,lapp_cons,lapp_nil,List.map_cons,List.map_nil,array_toList,↓reduceIte,Nat.reduceEqDiff,Bool.false_eq_true]
 simp (disch := first | assumption | simp) only [↓sbD,sbU,tyB,Nat.reduceMul,Nat.reduceSub,Int.reduceEq,Int.reduceLT,Int.reduceLE,Int.reduceNe,Nat.reduceBneDiff,Nat.reduceBEq,decide_false,gt_iff_lt,Bool.or_self,Bool.false_eq_true,Nat.mul_one,Nat.one_mul,Nat.zero_mul,↓reduceIte,Nat.reduceEqDiff,Nat.reduceLT,Nat.reduceAdd,Nat.reduceLeDiff,reduceCtorEq,goInt,pairs,isConst,TI.isAgg,splice,boxS,Edp,dpv,Nat.beq_eq,ZV.val,List.any_cons,List.any_nil,Bool.false_and,h1]
 exact downS_here h
theorem specBytes {σ : AHeap} {w : Nat} {a : ByteArray} {fp : List Nat} (hw : IsW σ w a .nilIface fp) {Q : Value → AHeap → Prop} (h : Q (.tuple #[.string a,.nilIface]) σ) : CallS E B 20 [.pointer (some ⟨w,0,none⟩)] σ Q := by
 obtain ⟨v,gp,h1,h2,rfl,h4⟩ := hw
 refine call20 (by simp) ?_
 simp only [strip,bodyOf,Tryd.f20,getD_body,keepN,bareOp_mk,lessOp_mk,lapp_cons,lapp_nil,List.map_cons,List.map_nil,array_toList,↓reduceIte,Nat.reduceEqDiff,Bool.false_eq_true]
 simp (disch := first | assumption | simp) only [↓sbD,sbU,tyB,Nat.reduceMul,Nat.reduceSub,Int.reduceEq,Int.reduceLT,Int.reduceLE,Int.reduceNe,Nat.reduceBneDiff,Nat.reduceBEq,decide_false,gt_iff_lt,Bool.or_self,Bool.false_eq_true,Nat.mul_one,Nat.one_mul,Nat.zero_mul,↓reduceIte,Nat.reduceEqDiff,Nat.reduceLT,Nat.reduceAdd,Nat.reduceLeDiff,reduceCtorEq,goInt,pairs,isConst,TI.isAgg,splice,boxS,Edp,dpv,Nat.beq_eq,ZV.val,List.any_cons,List.any_nil,Bool.false_and,h1]
 refine conv_BS h2 ?_
 simp (disch := first | assumption | simp) only [↓sbD,sbU,tyB,Nat.reduceMul,Nat.reduceSub,Int.reduceEq,Int.reduceLT,Int.reduceLE,Int.reduceNe,Nat.reduceBneDiff,Nat.reduceBEq,decide_false,gt_iff_lt,Bool.or_self,Bool.false_eq_true,Nat.mul_one,Nat.one_mul,Nat.zero_mul,↓reduceIte,Nat.reduceEqDiff,Nat.reduceLT,Nat.reduceAdd,Nat.reduceLeDiff,reduceCtorEq,goInt,pairs,isConst,TI.isAgg,splice,boxS,Edp,dpv,Nat.beq_eq,ZV.val,List.any_cons,List.any_nil,Bool.false_and]
 exact downS_here h
theorem specBytesE {σ : AHeap} {w u : Nat} {x : Value} {a : ByteArray} {fp : List Nat} (hw : IsW σ w a (.iface u x) fp) {Q : Value → AHeap → Prop} (h : Q (.tuple #[.string emp,.iface u x]) σ) : CallS E B 20 [.pointer (some ⟨w,0,none⟩)] σ Q := by
 have hw' := hw
 obtain ⟨v,gp,h1,h2,rfl,h4⟩ := hw
 refine call20 (by simp) ?_
 simp only [strip,bodyOf,Tryd.f20,getD_body,keepN,bareOp_mk,lessOp_mk,lapp_cons,lapp_nil,List.map_cons,List.map_nil,array_toList,↓reduceIte,Nat.reduceEqDiff,Bool.false_eq_true]
 simp (disch := first | assumption | simp) only [↓sbD,sbU,tyB,Nat.reduceMul,Nat.reduceSub,Int.reduceEq,Int.reduceLT,Int.reduceLE,Int.reduceNe,Nat.reduceBneDiff,Nat.reduceBEq,decide_false,gt_iff_lt,Bool.or_self,Bool.false_eq_true,Nat.mul_one,Nat.one_mul,Nat.zero_mul,↓reduceIte,Nat.reduceEqDiff,Nat.reduceLT,Nat.reduceAdd,Nat.reduceLeDiff,reduceCtorEq,goInt,pairs,isConst,TI.isAgg,splice,boxS,Edp,dpv,Nat.beq_eq,ZV.val,List.any_cons,List.any_nil,Bool.false_and,h1]
 refine specFirst hw' ?_
 simp (disch := first | assumption | simp) only [↓sbD,sbU,tyB,Nat.reduceMul,Nat.reduceSub,Int.reduceEq,Int.reduceLT,Int.reduceLE,Int.reduceNe,Nat.reduceBneDiff,Nat.reduceBEq,decide_false,gt_iff_lt,Bool.or_self,Bool.false_eq_true,Nat.mul_one,Nat.one_mul,Nat.zero_mul,↓reduceIte,Nat.reduceEqDiff,Nat.reduceLT,Nat.reduceAdd,Nat.reduceLeDiff,reduceCtorEq,goInt,pairs,isConst,TI.isAgg,splice,boxS,Edp,dpv,Nat.beq_eq,ZV.val,List.any_cons,List.any_nil,Bool.false_and]
 exact downS_here h
theorem specRaw {σ : AHeap} {w : Nat} {a s : ByteArray} {fp : List Nat} (hw : IsW σ w a .nilIface fp) (hz : a.size + s.size ≤ 100000000) {Q : Value → AHeap → Prop} (h : ∀ σ' fp',Kept σ fp σ' fp' → IsW σ' w (a ++ s) .nilIface fp' → Q unit σ') : CallS E B 13 [.pointer (some ⟨w,0,none⟩),.string s] σ Q := by
 refine call13 (by simp) ?_
 simp only [strip,bodyOf,Tryd.f13,getD_body,keepN,bareOp_mk,lessOp_mk,lapp_cons,lapp_nil,List.map_cons,List.map_nil,array_toList,↓reduceIte,Nat.reduceEqDiff,Bool.false_eq_true]
 simp (disch := first | assumption | simp) only [↓sbD,sbU,tyB,Nat.reduceMul,Nat.reduceSub,Int.reduceEq,Int.reduceLT,Int.reduceLE,Int.reduceNe,Nat.reduceBneDiff,Nat.reduceBEq,decide_false,gt_iff_lt,Bool.or_self,Bool.false_eq_true,Nat.mul_one,Nat.one_mul,Nat.zero_mul,↓reduceIte,Nat.reduceEqDiff,Nat.reduceLT,Nat.reduceAdd,Nat.reduceLeDiff,reduceCtorEq,goInt,pairs,isConst,TI.isAgg,splice,boxS,Edp,dpv,Nat.beq_eq,ZV.val,List.any_cons,List.any_nil,Bool.false_and]
 refine specOff hw ?_
 obtain ⟨v,gp,h1,h2,rfl,h4⟩ := hw
 simp (disch := first | assumption | simp) only [↓sbD,sbU,tyB,Nat.reduceMul,Nat.reduceSub,Int.reduceEq,Int.reduceLT,Int.reduceLE,Int.reduceNe,Nat.reduceBneDiff,Nat.reduceBEq,decide_false,gt_iff_lt,Bool.or_self,Bool.false_eq_true,Nat.mul_one,Nat.one_mul,Nat.zero_mul,↓reduceIte,Nat.reduceEqDiff,Nat.reduceLT,Nat.reduceAdd,Nat.reduceLeDiff,reduceCtorEq,goInt,pairs,isConst,TI.isAgg,splice,boxS,Edp,dpv,Nat.beq_eq,ZV.val,List.any_cons,List.any_nil,Bool.false_and,h1,not_bool]
 refine app_bytes h2 (fun b => src_str) (.inl rfl) hz fun σ' v' fp' k hb => ?_
 obtain ⟨h5,h6⟩ := k.at h1 (by simp) h4
 obtain ⟨hvc,hoc⟩ := hb.vc
 simp (disch := first | assumption | simp) only [↓sbD,sbU,tyB,Nat.reduceMul,Nat.reduceSub,Int.reduceEq,Int.reduceLT,Int.reduceLE,Int.reduceNe,Nat.reduceBneDiff,Nat.reduceBEq,decide_false,gt_iff_lt,Bool.or_self,Bool.false_eq_true,Nat.mul_one,Nat.one_mul,Nat.zero_mul,↓reduceIte,Nat.reduceEqDiff,Nat.reduceLT,Nat.reduceAdd,Nat.reduceLeDiff,reduceCtorEq,goInt,pairs,isConst,TI.isAgg,splice,boxS,Edp,dpv,Nat.beq_eq,ZV.val,List.any_cons,List.any_nil,Bool.false_and,h5,hvc,hoc]
 exact downS_here (h _ _ ((k.more (l := [w])).trans (Kept.set (by simp))) ⟨v',fp',AHeap.get_set_same _ _ _,hb.set h6,rfl,h6⟩)
def WOut (σ : AHeap) (w : Nat) (a : ByteArray) (r : ByteArray ⊕ (Nat × Nat)) (fp : List Nat) : Prop := match r with
 | .inl m => IsW σ w (a ++ m) .nilIface fp
 | .inr (n,p) => ∃ d x,d ≤ 2 ∧ ErN d (fv 129 ((a.size + p : Nat) : Int) x) n ∧ IsW σ w a (fv 129 ((a.size + p : Nat) : Int) x) fp
def numB (n k : Nat) : ByteArray := if k = 4 then str [n / 16777216 % 256,n / 65536 % 256,n / 256 % 256,n % 256] else if k = 2 then str [n / 256 % 256,n % 256] else str [n % 256]
def numW (n : Int) (k : Nat) : ByteArray ⊕ (Nat × Nat) := if n < 0 ∨ (2 ^ (8 * k) : Nat) ≤ n then .inr (4,0) else .inl (numB n.toNat k)
theorem wrap_u8N (N : Nat) : IntKind.u8.wrap (N : Int) = ((N % 256 : Nat) : Int) := by rw [IntKind.wrap_u8]; omega
theorem shr_nat {σ : AHeap} {N s : Nat} {t : Nat} {cs : Bool} {k : IntKind} (hs : s ≤ 63) : abin E σ .shr t cs (.int .i64 (N : Int)) (.int k (s : Int)) = some (.int .i64 ((N / 2 ^ s : Nat) : Int)) := by
 simp only [abin,ashift]
 rw [if_neg (by omega)]
 simp only [Int.toNat_natCast,Bool.false_eq_true,if_false]
 have e : min s IntKind.i64.bits = s := by have : IntKind.i64.bits = 64 := rfl; omega
 rw [e]
 congr 2
 rw [show ((2 : Int) ^ s) = ((2 ^ s : Nat) : Int) by simp]
 rw [Int.fdiv_eq_ediv_of_nonneg _ (Int.natCast_nonneg _)]
 exact (Int.natCast_ediv N (2 ^ s)).symm
theorem dead_of {σ : AHeap} {b : Nat} (hb : ∀ c,¬ σ.get c = .dead → c < b) : σ.get b = .dead := by
 rcases hg : σ.get b with _ | _ | _
 ·rfl
 ·exact absurd (hb b (by rw [hg]; simp)) (Nat.lt_irrefl _)
 ·exact absurd (hb b (by rw [hg]; simp)) (Nat.lt_irrefl _)
theorem bs_one {σ : AHeap} {n : Int} {K : Value → AHeap → Prop} (hq : ∀ b,σ.get b = .dead → K (.slice (some ⟨b,0,some 1⟩) 1 1) (σ.set b (.cells [.int .u8 n] true 1))) : afterOpS E B (some (bsS E σ 43 1 [(0,.int .u8 n)])) σ K := by
 simp (disch := first | assumption | simp) only [↓sbD,sbU,tyB,Nat.reduceMul,Nat.reduceSub,Int.reduceEq,Int.reduceLT,Int.reduceLE,Int.reduceNe,Nat.reduceBneDiff,Nat.reduceBEq,decide_false,gt_iff_lt,Bool.or_self,Bool.false_eq_true,Nat.mul_one,Nat.one_mul,Nat.zero_mul,↓reduceIte,Nat.reduceEqDiff,Nat.reduceLT,Nat.reduceAdd,Nat.reduceLeDiff,reduceCtorEq,goInt,pairs,isConst,TI.isAgg,splice,boxS,Edp,dpv,Nat.beq_eq,ZV.val,List.any_cons,List.any_nil,Bool.false_and,AS_any]
 intro b hb
 exact ⟨_,_,rfl,hq b (dead_of hb)⟩
theorem bs_two {σ : AHeap} {n m : Int} {K : Value → AHeap → Prop} (hq : ∀ b,σ.get b = .dead → K (.slice (some ⟨b,0,some 1⟩) 2 2) (σ.set b (.cells [.int .u8 n,.int .u8 m] true 1))) : afterOpS E B (some (bsS E σ 43 2 [(0,.int .u8 n),(1,.int .u8 m)])) σ K := by
 simp (disch := first | assumption | simp) only [↓sbD,sbU,tyB,Nat.reduceMul,Nat.reduceSub,Int.reduceEq,Int.reduceLT,Int.reduceLE,Int.reduceNe,Nat.reduceBneDiff,Nat.reduceBEq,decide_false,gt_iff_lt,Bool.or_self,Bool.false_eq_true,Nat.mul_one,Nat.one_mul,Nat.zero_mul,↓reduceIte,Nat.reduceEqDiff,Nat.reduceLT,Nat.reduceAdd,Nat.reduceLeDiff,reduceCtorEq,goInt,pairs,isConst,TI.isAgg,splice,boxS,Edp,dpv,Nat.beq_eq,ZV.val,List.any_cons,List.any_nil,Bool.false_and,AS_any]
 intro b hb
 exact ⟨_,_,rfl,hq b (dead_of hb)⟩
theorem src_sl {σ : AHeap} {b n c : Nat} {ex : Option Nat} {l : List Nat} {wr : Bool} {sz : Nat} (hg : σ.get b = .cells (u8s l) wr sz) (hl : ∀ n ∈ l,n < 256) (hn : n = l.length) : srcCells σ 1 (.slice (some ⟨b,0,ex⟩) n c) = some ((str l).size,bytesOf (str l)) := by
 have h1 : (u8s l).length = l.length := by simp [u8s]
 subst hn
 simp only [srcCells,takeCells,hg]
 rw [if_pos (by omega),bytesOf_str hl,str_size]
 simp only [List.drop_zero,Nat.mul_one,Option.map_some]
 rw [List.take_of_length_le (by omega)]
theorem app_sl {σ : AHeap} {K : Value → AHeap → Prop} {v : Value} {a : ByteArray} {gp : List Nat} {b n c : Nat} {ex : Option Nat} {l : List Nat} (hv : BS σ v a gp) (hg : σ.get b = .cells (u8s l) true 1) (hl : ∀ n ∈ l,n < 256) (hn : n = l.length) (hz : a.size + l.length ≤ 100000000)
  (hq : ∀ σ' v' fp',Kept σ gp σ' fp' → BS σ' v' (a ++ str l) fp' → vcells v' = [v'] → oneCell v' = true → K v' σ') : afterOpS E B (some (.any fun b' => aappend E (σ.resize b') [43,43] [v,.slice (some ⟨b,0,ex⟩) n c])) σ K :=
 app_bytes hv (fun b' => src_sl (σ := σ.resize b') hg hl hn) (.inr rfl) (by rw [str_size]; exact hz) fun σ' v' fp' k h => hq σ' v' fp' k h h.vc.1 h.vc.2
theorem str_app (l m : List Nat) : str l ++ str m = str (l ++ m) := by
 apply ByteArray.ext
 simp [str,ByteArray.data_append]
theorem app_assoc (a b c : ByteArray) : a ++ b ++ c = a ++ (b ++ c) := by
 apply ByteArray.ext
 simp [ByteArray.data_append]
def lenV (σ : AHeap) (v : Value) (a : ByteArray) : Prop := abuiltin E σ .len [43] [v] = some (.int .i64 (a.size : Int),σ)
theorem BS.len {σ : AHeap} {v : Value} {a : ByteArray} {fp : List Nat} (h : BS σ v a fp) : lenV σ v a := by
 rcases h with ⟨h1,rfl,_⟩ | ⟨d,rfl,_⟩
 ·unfold lenV; rw [h1]; rfl
 ·rfl
theorem BS.live {σ : AHeap} {v : Value} {a : ByteArray} {fp : List Nat} (h : BS σ v a fp) {b : Nat} (hb : b ∈ fp) : ∃ cs,σ.get b = .cells cs true 1 := by
 rcases h with ⟨_,_,rfl⟩ | ⟨d,_,h2,rfl,_⟩
 ·cases hb
 ·obtain rfl := List.mem_singleton.1 hb; exact ⟨_,h2⟩
theorem specNumW1 {σ : AHeap} {w : Nat} {a : ByteArray} {fp : List Nat} {n : Int} (hw : IsW σ w a .nilIface fp) (hz : a.size ≤ 10000000) {Q : Value → AHeap → Prop} (h : ∀ σ' fp',Kept σ fp σ' fp' → WOut σ' w a (numW n 1) fp' → Q unit σ') :
  CallS E B 27 [.pointer (some ⟨w,0,none⟩),.int .i64 n,.int .i64 1] σ Q := by
 refine call27 (by simp) ?_
 simp only [strip,bodyOf,Tryd.f27,getD_body,keepN,bareOp_mk,lessOp_mk,lapp_cons,lapp_nil,List.map_cons,List.map_nil,array_toList,↓reduceIte,Nat.reduceEqDiff,Bool.false_eq_true]
 simp (disch := first | assumption | simp) only [↓sbD,sbU,tyB,Nat.reduceMul,Nat.reduceSub,Int.reduceEq,Int.reduceLT,Int.reduceLE,Int.reduceNe,Nat.reduceBneDiff,Nat.reduceBEq,decide_false,gt_iff_lt,Bool.or_self,Bool.false_eq_true,Nat.mul_one,Nat.one_mul,Nat.zero_mul,↓reduceIte,Nat.reduceEqDiff,Nat.reduceLT,Nat.reduceAdd,Nat.reduceLeDiff,reduceCtorEq,goInt,pairs,isConst,TI.isAgg,splice,boxS,Edp,dpv,Nat.beq_eq,ZV.val,List.any_cons,List.any_nil,Bool.false_and]
 refine specOff hw ?_
 have m1 : IntKind.i64.wrap (8 * 1) = 8 := by decide
 have s1 : abin E σ .shl 3 true (.int .i64 1) (.int .i64 8) = some (.int .i64 256) := by kernel_rfl
 have hw' := hw
 obtain ⟨v,gp,h1,h2,rfl,h4⟩ := hw
 by_cases hb : n < 0 ∨ 256 ≤ n
 ·have hlen : abuiltin E σ .len [43] [v] = some (.int .i64 (a.size : Int),σ) := BS.len h2
  have hgoal : ∀ σ',Kept σ (w :: gp) σ' (w :: gp) → IsW σ' w a (fv 129 (a.size : Int) (sent 4)) (w :: gp) → Q unit σ' := fun σ' k hi => h σ' _ k (by
   unfold numW
   rw [if_pos (by rcases hb with hb | hb; exact .inl hb; exact .inr (by simpa using hb))]
   exact ⟨1,sent 4,by omega,ErN.new _ _ ⟨by omega,by omega⟩,hi⟩)
  by_cases h0 : n < 0
  ·simp (disch := first | assumption | simp) only [↓sbD,sbU,tyB,Nat.reduceMul,Nat.reduceSub,Int.reduceEq,Int.reduceLT,Int.reduceLE,Int.reduceNe,Nat.reduceBneDiff,Nat.reduceBEq,decide_false,gt_iff_lt,Bool.or_self,Bool.false_eq_true,Nat.mul_one,Nat.one_mul,Nat.zero_mul,↓reduceIte,Nat.reduceEqDiff,Nat.reduceLT,Nat.reduceAdd,Nat.reduceLeDiff,reduceCtorEq,goInt,pairs,isConst,TI.isAgg,splice,boxS,Edp,dpv,Nat.beq_eq,ZV.val,List.any_cons,List.any_nil,Bool.false_and,m1,s1,h0,h1,hlen,gk4]
   refine specNew (n := 4) ⟨by omega,by omega⟩ ?_
   simp (disch := first | assumption | simp) only [↓sbD,sbU,tyB,Nat.reduceMul,Nat.reduceSub,Int.reduceEq,Int.reduceLT,Int.reduceLE,Int.reduceNe,Nat.reduceBneDiff,Nat.reduceBEq,decide_false,gt_iff_lt,Bool.or_self,Bool.false_eq_true,Nat.mul_one,Nat.one_mul,Nat.zero_mul,↓reduceIte,Nat.reduceEqDiff,Nat.reduceLT,Nat.reduceAdd,Nat.reduceLeDiff,reduceCtorEq,goInt,pairs,isConst,TI.isAgg,splice,boxS,Edp,dpv,Nat.beq_eq,ZV.val,List.any_cons,List.any_nil,Bool.false_and]
   refine specFail hw' fun σ' k hi => ?_
   simp (disch := first | assumption | simp) only [↓sbD,sbU,tyB,Nat.reduceMul,Nat.reduceSub,Int.reduceEq,Int.reduceLT,Int.reduceLE,Int.reduceNe,Nat.reduceBneDiff,Nat.reduceBEq,decide_false,gt_iff_lt,Bool.or_self,Bool.false_eq_true,Nat.mul_one,Nat.one_mul,Nat.zero_mul,↓reduceIte,Nat.reduceEqDiff,Nat.reduceLT,Nat.reduceAdd,Nat.reduceLeDiff,reduceCtorEq,goInt,pairs,isConst,TI.isAgg,splice,boxS,Edp,dpv,Nat.beq_eq,ZV.val,List.any_cons,List.any_nil,Bool.false_and]
   exact downS_here (hgoal σ' k hi)
  ·have h8 : 256 ≤ n := by omega
   simp (disch := first | assumption | simp) only [↓sbD,sbU,tyB,Nat.reduceMul,Nat.reduceSub,Int.reduceEq,Int.reduceLT,Int.reduceLE,Int.reduceNe,Nat.reduceBneDiff,Nat.reduceBEq,decide_false,gt_iff_lt,Bool.or_self,Bool.false_eq_true,Nat.mul_one,Nat.one_mul,Nat.zero_mul,↓reduceIte,Nat.reduceEqDiff,Nat.reduceLT,Nat.reduceAdd,Nat.reduceLeDiff,reduceCtorEq,goInt,pairs,isConst,TI.isAgg,splice,boxS,Edp,dpv,Nat.beq_eq,ZV.val,List.any_cons,List.any_nil,Bool.false_and,m1,s1,h0,h8,h1,hlen,gk4]
   refine specNew (n := 4) ⟨by omega,by omega⟩ ?_
   simp (disch := first | assumption | simp) only [↓sbD,sbU,tyB,Nat.reduceMul,Nat.reduceSub,Int.reduceEq,Int.reduceLT,Int.reduceLE,Int.reduceNe,Nat.reduceBneDiff,Nat.reduceBEq,decide_false,gt_iff_lt,Bool.or_self,Bool.false_eq_true,Nat.mul_one,Nat.one_mul,Nat.zero_mul,↓reduceIte,Nat.reduceEqDiff,Nat.reduceLT,Nat.reduceAdd,Nat.reduceLeDiff,reduceCtorEq,goInt,pairs,isConst,TI.isAgg,splice,boxS,Edp,dpv,Nat.beq_eq,ZV.val,List.any_cons,List.any_nil,Bool.false_and]
   refine specFail hw' fun σ' k hi => ?_
   simp (disch := first | assumption | simp) only [↓sbD,sbU,tyB,Nat.reduceMul,Nat.reduceSub,Int.reduceEq,Int.reduceLT,Int.reduceLE,Int.reduceNe,Nat.reduceBneDiff,Nat.reduceBEq,decide_false,gt_iff_lt,Bool.or_self,Bool.false_eq_true,Nat.mul_one,Nat.one_mul,Nat.zero_mul,↓reduceIte,Nat.reduceEqDiff,Nat.reduceLT,Nat.reduceAdd,Nat.reduceLeDiff,reduceCtorEq,goInt,pairs,isConst,TI.isAgg,splice,boxS,Edp,dpv,Nat.beq_eq,ZV.val,List.any_cons,List.any_nil,Bool.false_and]
   exact downS_here (hgoal σ' k hi)
 ·obtain ⟨N,rfl⟩ : ∃ N : Nat,n = N := ⟨n.toNat,by omega⟩
  have h0 : ¬ (N : Int) < 0 := by omega
  have h8 : ¬ (256 : Int) ≤ N := by omega
  have hout : ∀ σ' fp',IsW σ' w (a ++ numB N 1) .nilIface fp' → WOut σ' w a (numW N 1) fp' := fun σ' fp' hi => by
   unfold numW
   rw [if_neg (by simp; omega)]
   exact hi
  simp (disch := first | assumption | simp) only [↓sbD,sbU,tyB,Nat.reduceMul,Nat.reduceSub,Int.reduceEq,Int.reduceLT,Int.reduceLE,Int.reduceNe,Nat.reduceBneDiff,Nat.reduceBEq,decide_false,gt_iff_lt,Bool.or_self,Bool.false_eq_true,Nat.mul_one,Nat.one_mul,Nat.zero_mul,↓reduceIte,Nat.reduceEqDiff,Nat.reduceLT,Nat.reduceAdd,Nat.reduceLeDiff,reduceCtorEq,goInt,pairs,isConst,TI.isAgg,splice,boxS,Edp,dpv,Nat.beq_eq,ZV.val,List.any_cons,List.any_nil,Bool.false_and,m1,s1,h0,h8,wrap_u8N,h1]
  refine bs_one fun b1 hb1 => ?_
  have kb1 : Kept σ [] (σ.set b1 (.cells (u8s [N % 256]) true 1)) [b1] := Kept.new' hb1
  have cb1 := (kb1.at h1 (by simp) (by simp)).1
  have hs1 := BS.kept h2 kb1 (fun _ _ h => by cases h)
  have hn1 : b1 ∉ gp := fun hm => by rcases BS.live h2 hm with ⟨cs,hg⟩; rw [hb1] at hg; cases hg
  have hnw1 : w ≠ b1 := by rintro rfl; rw [hb1] at h1; cases h1
  simp (disch := first | assumption | simp) only [↓sbD,sbU,tyB,Nat.reduceMul,Nat.reduceSub,Int.reduceEq,Int.reduceLT,Int.reduceLE,Int.reduceNe,Nat.reduceBneDiff,Nat.reduceBEq,decide_false,gt_iff_lt,Bool.or_self,Bool.false_eq_true,Nat.mul_one,Nat.one_mul,Nat.zero_mul,↓reduceIte,Nat.reduceEqDiff,Nat.reduceLT,Nat.reduceAdd,Nat.reduceLeDiff,reduceCtorEq,goInt,pairs,isConst,TI.isAgg,splice,boxS,Edp,dpv,Nat.beq_eq,ZV.val,List.any_cons,List.any_nil,Bool.false_and]
  refine app_sl hs1 (l := [N % 256]) (AHeap.get_set_same _ _ _) (by intro m hm; simp only [List.mem_cons,List.not_mem_nil,or_false] at hm; omega) rfl (by simp only [size_app,str_size,List.length_cons,List.length_nil]; omega) fun τ1 v1 gp1 k1 hb'1 vc1 oc1 => ?_
  obtain ⟨c1,n1⟩ := k1.at cb1 (by simp) h4
  simp (disch := first | assumption | simp) only [↓sbD,sbU,tyB,Nat.reduceMul,Nat.reduceSub,Int.reduceEq,Int.reduceLT,Int.reduceLE,Int.reduceNe,Nat.reduceBneDiff,Nat.reduceBEq,decide_false,gt_iff_lt,Bool.or_self,Bool.false_eq_true,Nat.mul_one,Nat.one_mul,Nat.zero_mul,↓reduceIte,Nat.reduceEqDiff,Nat.reduceLT,Nat.reduceAdd,Nat.reduceLeDiff,reduceCtorEq,goInt,pairs,isConst,TI.isAgg,splice,boxS,Edp,dpv,Nat.beq_eq,ZV.val,List.any_cons,List.any_nil,Bool.false_and,m1,s1,h0,h8,wrap_u8N,c1,vc1,oc1]
  have kk1 : Kept σ (w :: gp) (τ1.set w (.cells [v1,.nilIface] true 0)) (w :: gp1) := (Kept.trans (Kept.trans ⟨fun c hc _ => kb1.get c hc (by simp),fun c hc => .inl hc⟩ (k1.more (l := [w]))) (Kept.set (by simp)))
  have hz1 := BS.set (w := w) (o := .cells [v1,.nilIface] true 0) hb'1 n1
  have g1 := AHeap.get_set_same τ1 w (.cells [v1,.nilIface] true 0)
  refine downS_here (h _ _ kk1 (hout _ _ ⟨v1,gp1,g1,?_,rfl,n1⟩))
  have e : a ++ numB N 1 = a ++ str [N % 256] := by simp only [numB]; simp [app_assoc,str_app]
  rw [e]; exact hz1
theorem specNumW2 {σ : AHeap} {w : Nat} {a : ByteArray} {fp : List Nat} {n : Int} (hw : IsW σ w a .nilIface fp) (hz : a.size ≤ 10000000) {Q : Value → AHeap → Prop} (h : ∀ σ' fp',Kept σ fp σ' fp' → WOut σ' w a (numW n 2) fp' → Q unit σ') :
  CallS E B 27 [.pointer (some ⟨w,0,none⟩),.int .i64 n,.int .i64 2] σ Q := by
 refine call27 (by simp) ?_
 simp only [strip,bodyOf,Tryd.f27,getD_body,keepN,bareOp_mk,lessOp_mk,lapp_cons,lapp_nil,List.map_cons,List.map_nil,array_toList,↓reduceIte,Nat.reduceEqDiff,Bool.false_eq_true]
 simp (disch := first | assumption | simp) only [↓sbD,sbU,tyB,Nat.reduceMul,Nat.reduceSub,Int.reduceEq,Int.reduceLT,Int.reduceLE,Int.reduceNe,Nat.reduceBneDiff,Nat.reduceBEq,decide_false,gt_iff_lt,Bool.or_self,Bool.false_eq_true,Nat.mul_one,Nat.one_mul,Nat.zero_mul,↓reduceIte,Nat.reduceEqDiff,Nat.reduceLT,Nat.reduceAdd,Nat.reduceLeDiff,reduceCtorEq,goInt,pairs,isConst,TI.isAgg,splice,boxS,Edp,dpv,Nat.beq_eq,ZV.val,List.any_cons,List.any_nil,Bool.false_and]
 refine specOff hw ?_
 have m1 : IntKind.i64.wrap (8 * 2) = 16 := by decide
 have s1 : abin E σ .shl 3 true (.int .i64 1) (.int .i64 16) = some (.int .i64 65536) := by kernel_rfl
 have hw' := hw
 obtain ⟨v,gp,h1,h2,rfl,h4⟩ := hw
 by_cases hb : n < 0 ∨ 65536 ≤ n
 ·have hlen : abuiltin E σ .len [43] [v] = some (.int .i64 (a.size : Int),σ) := BS.len h2
  have hgoal : ∀ σ',Kept σ (w :: gp) σ' (w :: gp) → IsW σ' w a (fv 129 (a.size : Int) (sent 4)) (w :: gp) → Q unit σ' := fun σ' k hi => h σ' _ k (by
   unfold numW
   rw [if_pos (by rcases hb with hb | hb; exact .inl hb; exact .inr (by simpa using hb))]
   exact ⟨1,sent 4,by omega,ErN.new _ _ ⟨by omega,by omega⟩,hi⟩)
  by_cases h0 : n < 0
  ·simp (disch := first | assumption | simp) only [↓sbD,sbU,tyB,Nat.reduceMul,Nat.reduceSub,Int.reduceEq,Int.reduceLT,Int.reduceLE,Int.reduceNe,Nat.reduceBneDiff,Nat.reduceBEq,decide_false,gt_iff_lt,Bool.or_self,Bool.false_eq_true,Nat.mul_one,Nat.one_mul,Nat.zero_mul,↓reduceIte,Nat.reduceEqDiff,Nat.reduceLT,Nat.reduceAdd,Nat.reduceLeDiff,reduceCtorEq,goInt,pairs,isConst,TI.isAgg,splice,boxS,Edp,dpv,Nat.beq_eq,ZV.val,List.any_cons,List.any_nil,Bool.false_and,m1,s1,h0,h1,hlen,gk4]
   refine specNew (n := 4) ⟨by omega,by omega⟩ ?_
   simp (disch := first | assumption | simp) only [↓sbD,sbU,tyB,Nat.reduceMul,Nat.reduceSub,Int.reduceEq,Int.reduceLT,Int.reduceLE,Int.reduceNe,Nat.reduceBneDiff,Nat.reduceBEq,decide_false,gt_iff_lt,Bool.or_self,Bool.false_eq_true,Nat.mul_one,Nat.one_mul,Nat.zero_mul,↓reduceIte,Nat.reduceEqDiff,Nat.reduceLT,Nat.reduceAdd,Nat.reduceLeDiff,reduceCtorEq,goInt,pairs,isConst,TI.isAgg,splice,boxS,Edp,dpv,Nat.beq_eq,ZV.val,List.any_cons,List.any_nil,Bool.false_and]
   refine specFail hw' fun σ' k hi => ?_
   simp (disch := first | assumption | simp) only [↓sbD,sbU,tyB,Nat.reduceMul,Nat.reduceSub,Int.reduceEq,Int.reduceLT,Int.reduceLE,Int.reduceNe,Nat.reduceBneDiff,Nat.reduceBEq,decide_false,gt_iff_lt,Bool.or_self,Bool.false_eq_true,Nat.mul_one,Nat.one_mul,Nat.zero_mul,↓reduceIte,Nat.reduceEqDiff,Nat.reduceLT,Nat.reduceAdd,Nat.reduceLeDiff,reduceCtorEq,goInt,pairs,isConst,TI.isAgg,splice,boxS,Edp,dpv,Nat.beq_eq,ZV.val,List.any_cons,List.any_nil,Bool.false_and]
   exact downS_here (hgoal σ' k hi)
  ·have h8 : 65536 ≤ n := by omega
   simp (disch := first | assumption | simp) only [↓sbD,sbU,tyB,Nat.reduceMul,Nat.reduceSub,Int.reduceEq,Int.reduceLT,Int.reduceLE,Int.reduceNe,Nat.reduceBneDiff,Nat.reduceBEq,decide_false,gt_iff_lt,Bool.or_self,Bool.false_eq_true,Nat.mul_one,Nat.one_mul,Nat.zero_mul,↓reduceIte,Nat.reduceEqDiff,Nat.reduceLT,Nat.reduceAdd,Nat.reduceLeDiff,reduceCtorEq,goInt,pairs,isConst,TI.isAgg,splice,boxS,Edp,dpv,Nat.beq_eq,ZV.val,List.any_cons,List.any_nil,Bool.false_and,m1,s1,h0,h8,h1,hlen,gk4]
   refine specNew (n := 4) ⟨by omega,by omega⟩ ?_
   simp (disch := first | assumption | simp) only [↓sbD,sbU,tyB,Nat.reduceMul,Nat.reduceSub,Int.reduceEq,Int.reduceLT,Int.reduceLE,Int.reduceNe,Nat.reduceBneDiff,Nat.reduceBEq,decide_false,gt_iff_lt,Bool.or_self,Bool.false_eq_true,Nat.mul_one,Nat.one_mul,Nat.zero_mul,↓reduceIte,Nat.reduceEqDiff,Nat.reduceLT,Nat.reduceAdd,Nat.reduceLeDiff,reduceCtorEq,goInt,pairs,isConst,TI.isAgg,splice,boxS,Edp,dpv,Nat.beq_eq,ZV.val,List.any_cons,List.any_nil,Bool.false_and]
   refine specFail hw' fun σ' k hi => ?_
   simp (disch := first | assumption | simp) only [↓sbD,sbU,tyB,Nat.reduceMul,Nat.reduceSub,Int.reduceEq,Int.reduceLT,Int.reduceLE,Int.reduceNe,Nat.reduceBneDiff,Nat.reduceBEq,decide_false,gt_iff_lt,Bool.or_self,Bool.false_eq_true,Nat.mul_one,Nat.one_mul,Nat.zero_mul,↓reduceIte,Nat.reduceEqDiff,Nat.reduceLT,Nat.reduceAdd,Nat.reduceLeDiff,reduceCtorEq,goInt,pairs,isConst,TI.isAgg,splice,boxS,Edp,dpv,Nat.beq_eq,ZV.val,List.any_cons,List.any_nil,Bool.false_and]
   exact downS_here (hgoal σ' k hi)
 ·obtain ⟨N,rfl⟩ : ∃ N : Nat,n = N := ⟨n.toNat,by omega⟩
  have h0 : ¬ (N : Int) < 0 := by omega
  have h8 : ¬ (65536 : Int) ≤ N := by omega
  have hout : ∀ σ' fp',IsW σ' w (a ++ numB N 2) .nilIface fp' → WOut σ' w a (numW N 2) fp' := fun σ' fp' hi => by
   unfold numW
   rw [if_neg (by simp; omega)]
   exact hi
  have q256 : ∀ τ : AHeap,abin E τ .shr 3 true (.int .i64 (N : Int)) (.int .u64 8) = some (.int .i64 ((N / 256 : Nat) : Int)) := fun τ => shr_nat (s := 8) (by omega)
  simp (disch := first | assumption | simp) only [↓sbD,sbU,tyB,Nat.reduceMul,Nat.reduceSub,Int.reduceEq,Int.reduceLT,Int.reduceLE,Int.reduceNe,Nat.reduceBneDiff,Nat.reduceBEq,decide_false,gt_iff_lt,Bool.or_self,Bool.false_eq_true,Nat.mul_one,Nat.one_mul,Nat.zero_mul,↓reduceIte,Nat.reduceEqDiff,Nat.reduceLT,Nat.reduceAdd,Nat.reduceLeDiff,reduceCtorEq,goInt,pairs,isConst,TI.isAgg,splice,boxS,Edp,dpv,Nat.beq_eq,ZV.val,List.any_cons,List.any_nil,Bool.false_and,m1,s1,h0,h8,wrap_u8N,q256,h1]
  refine bs_one fun b1 hb1 => ?_
  have kb1 : Kept σ [] (σ.set b1 (.cells (u8s [N / 256 % 256]) true 1)) [b1] := Kept.new' hb1
  have cb1 := (kb1.at h1 (by simp) (by simp)).1
  have hs1 := BS.kept h2 kb1 (fun _ _ h => by cases h)
  have hn1 : b1 ∉ gp := fun hm => by rcases BS.live h2 hm with ⟨cs,hg⟩; rw [hb1] at hg; cases hg
  have hnw1 : w ≠ b1 := by rintro rfl; rw [hb1] at h1; cases h1
  simp (disch := first | assumption | simp) only [↓sbD,sbU,tyB,Nat.reduceMul,Nat.reduceSub,Int.reduceEq,Int.reduceLT,Int.reduceLE,Int.reduceNe,Nat.reduceBneDiff,Nat.reduceBEq,decide_false,gt_iff_lt,Bool.or_self,Bool.false_eq_true,Nat.mul_one,Nat.one_mul,Nat.zero_mul,↓reduceIte,Nat.reduceEqDiff,Nat.reduceLT,Nat.reduceAdd,Nat.reduceLeDiff,reduceCtorEq,goInt,pairs,isConst,TI.isAgg,splice,boxS,Edp,dpv,Nat.beq_eq,ZV.val,List.any_cons,List.any_nil,Bool.false_and]
  refine app_sl hs1 (l := [N / 256 % 256]) (AHeap.get_set_same _ _ _) (by intro m hm; simp only [List.mem_cons,List.not_mem_nil,or_false] at hm; omega) rfl (by simp only [size_app,str_size,List.length_cons,List.length_nil]; omega) fun τ1 v1 gp1 k1 hb'1 vc1 oc1 => ?_
  obtain ⟨c1,n1⟩ := k1.at cb1 (by simp) h4
  simp (disch := first | assumption | simp) only [↓sbD,sbU,tyB,Nat.reduceMul,Nat.reduceSub,Int.reduceEq,Int.reduceLT,Int.reduceLE,Int.reduceNe,Nat.reduceBneDiff,Nat.reduceBEq,decide_false,gt_iff_lt,Bool.or_self,Bool.false_eq_true,Nat.mul_one,Nat.one_mul,Nat.zero_mul,↓reduceIte,Nat.reduceEqDiff,Nat.reduceLT,Nat.reduceAdd,Nat.reduceLeDiff,reduceCtorEq,goInt,pairs,isConst,TI.isAgg,splice,boxS,Edp,dpv,Nat.beq_eq,ZV.val,List.any_cons,List.any_nil,Bool.false_and,m1,s1,h0,h8,wrap_u8N,q256,c1,vc1,oc1]
  have kk1 : Kept σ (w :: gp) (τ1.set w (.cells [v1,.nilIface] true 0)) (w :: gp1) := (Kept.trans (Kept.trans ⟨fun c hc _ => kb1.get c hc (by simp),fun c hc => .inl hc⟩ (k1.more (l := [w]))) (Kept.set (by simp)))
  have hz1 := BS.set (w := w) (o := .cells [v1,.nilIface] true 0) hb'1 n1
  have g1 := AHeap.get_set_same τ1 w (.cells [v1,.nilIface] true 0)
  try simp (disch := first | assumption | simp) only [↓sbD,sbU,tyB,Nat.reduceMul,Nat.reduceSub,Int.reduceEq,Int.reduceLT,Int.reduceLE,Int.reduceNe,Nat.reduceBneDiff,Nat.reduceBEq,decide_false,gt_iff_lt,Bool.or_self,Bool.false_eq_true,Nat.mul_one,Nat.one_mul,Nat.zero_mul,↓reduceIte,Nat.reduceEqDiff,Nat.reduceLT,Nat.reduceAdd,Nat.reduceLeDiff,reduceCtorEq,goInt,pairs,isConst,TI.isAgg,splice,boxS,Edp,dpv,Nat.beq_eq,ZV.val,List.any_cons,List.any_nil,Bool.false_and,m1,s1,h0,h8,wrap_u8N,q256,g1]
  refine bs_one fun b2 hb2 => ?_
  have kb2 : Kept (τ1.set w (.cells [v1,.nilIface] true 0)) [] ((τ1.set w (.cells [v1,.nilIface] true 0)).set b2 (.cells (u8s [N % 256]) true 1)) [b2] := Kept.new' hb2
  have cb2 := (kb2.at g1 (by simp) (by simp)).1
  have hs2 := BS.kept hz1 kb2 (fun _ _ h => by cases h)
  have hn2 : b2 ∉ gp1 := fun hm => by rcases BS.live hz1 hm with ⟨cs,hg⟩; rw [hb2] at hg; cases hg
  have hnw2 : w ≠ b2 := by rintro rfl; rw [hb2] at g1; cases g1
  simp (disch := first | assumption | simp) only [↓sbD,sbU,tyB,Nat.reduceMul,Nat.reduceSub,Int.reduceEq,Int.reduceLT,Int.reduceLE,Int.reduceNe,Nat.reduceBneDiff,Nat.reduceBEq,decide_false,gt_iff_lt,Bool.or_self,Bool.false_eq_true,Nat.mul_one,Nat.one_mul,Nat.zero_mul,↓reduceIte,Nat.reduceEqDiff,Nat.reduceLT,Nat.reduceAdd,Nat.reduceLeDiff,reduceCtorEq,goInt,pairs,isConst,TI.isAgg,splice,boxS,Edp,dpv,Nat.beq_eq,ZV.val,List.any_cons,List.any_nil,Bool.false_and]
  refine app_sl hs2 (l := [N % 256]) (AHeap.get_set_same _ _ _) (by intro m hm; simp only [List.mem_cons,List.not_mem_nil,or_false] at hm; omega) rfl (by simp only [size_app,str_size,List.length_cons,List.length_nil]; omega) fun τ2 v2 gp2 k2 hb'2 vc2 oc2 => ?_
  obtain ⟨c2,n2⟩ := k2.at cb2 (by simp) n1
  simp (disch := first | assumption | simp) only [↓sbD,sbU,tyB,Nat.reduceMul,Nat.reduceSub,Int.reduceEq,Int.reduceLT,Int.reduceLE,Int.reduceNe,Nat.reduceBneDiff,Nat.reduceBEq,decide_false,gt_iff_lt,Bool.or_self,Bool.false_eq_true,Nat.mul_one,Nat.one_mul,Nat.zero_mul,↓reduceIte,Nat.reduceEqDiff,Nat.reduceLT,Nat.reduceAdd,Nat.reduceLeDiff,reduceCtorEq,goInt,pairs,isConst,TI.isAgg,splice,boxS,Edp,dpv,Nat.beq_eq,ZV.val,List.any_cons,List.any_nil,Bool.false_and,m1,s1,h0,h8,wrap_u8N,q256,c2,vc2,oc2]
  have kk2 : Kept (τ1.set w (.cells [v1,.nilIface] true 0)) (w :: gp1) (τ2.set w (.cells [v2,.nilIface] true 0)) (w :: gp2) := (Kept.trans (Kept.trans ⟨fun c hc _ => kb2.get c hc (by simp),fun c hc => .inl hc⟩ (k2.more (l := [w]))) (Kept.set (by simp)))
  have hz2 := BS.set (w := w) (o := .cells [v2,.nilIface] true 0) hb'2 n2
  have g2 := AHeap.get_set_same τ2 w (.cells [v2,.nilIface] true 0)
  refine downS_here (h _ _ (kk1.trans kk2) (hout _ _ ⟨v2,gp2,g2,?_,rfl,n2⟩))
  have e : a ++ numB N 2 = a ++ str [N / 256 % 256] ++ str [N % 256] := by simp only [numB]; simp [app_assoc,str_app]
  rw [e]; exact hz2
theorem specNumW4 {σ : AHeap} {w : Nat} {a : ByteArray} {fp : List Nat} {n : Int} (hw : IsW σ w a .nilIface fp) (hz : a.size ≤ 10000000) {Q : Value → AHeap → Prop} (h : ∀ σ' fp',Kept σ fp σ' fp' → WOut σ' w a (numW n 4) fp' → Q unit σ') :
  CallS E B 27 [.pointer (some ⟨w,0,none⟩),.int .i64 n,.int .i64 4] σ Q := by
 refine call27 (by simp) ?_
 simp only [strip,bodyOf,Tryd.f27,getD_body,keepN,bareOp_mk,lessOp_mk,lapp_cons,lapp_nil,List.map_cons,List.map_nil,array_toList,↓reduceIte,Nat.reduceEqDiff,Bool.false_eq_true]
 simp (disch := first | assumption | simp) only [↓sbD,sbU,tyB,Nat.reduceMul,Nat.reduceSub,Int.reduceEq,Int.reduceLT,Int.reduceLE,Int.reduceNe,Nat.reduceBneDiff,Nat.reduceBEq,decide_false,gt_iff_lt,Bool.or_self,Bool.false_eq_true,Nat.mul_one,Nat.one_mul,Nat.zero_mul,↓reduceIte,Nat.reduceEqDiff,Nat.reduceLT,Nat.reduceAdd,Nat.reduceLeDiff,reduceCtorEq,goInt,pairs,isConst,TI.isAgg,splice,boxS,Edp,dpv,Nat.beq_eq,ZV.val,List.any_cons,List.any_nil,Bool.false_and]
 refine specOff hw ?_
 have m1 : IntKind.i64.wrap (8 * 4) = 32 := by decide
 have s1 : abin E σ .shl 3 true (.int .i64 1) (.int .i64 32) = some (.int .i64 4294967296) := by kernel_rfl
 have hw' := hw
 obtain ⟨v,gp,h1,h2,rfl,h4⟩ := hw
 by_cases hb : n < 0 ∨ 4294967296 ≤ n
 ·have hlen : abuiltin E σ .len [43] [v] = some (.int .i64 (a.size : Int),σ) := BS.len h2
  have hgoal : ∀ σ',Kept σ (w :: gp) σ' (w :: gp) → IsW σ' w a (fv 129 (a.size : Int) (sent 4)) (w :: gp) → Q unit σ' := fun σ' k hi => h σ' _ k (by
   unfold numW
   rw [if_pos (by rcases hb with hb | hb; exact .inl hb; exact .inr (by simpa using hb))]
   exact ⟨1,sent 4,by omega,ErN.new _ _ ⟨by omega,by omega⟩,hi⟩)
  by_cases h0 : n < 0
  ·simp (disch := first | assumption | simp) only [↓sbD,sbU,tyB,Nat.reduceMul,Nat.reduceSub,Int.reduceEq,Int.reduceLT,Int.reduceLE,Int.reduceNe,Nat.reduceBneDiff,Nat.reduceBEq,decide_false,gt_iff_lt,Bool.or_self,Bool.false_eq_true,Nat.mul_one,Nat.one_mul,Nat.zero_mul,↓reduceIte,Nat.reduceEqDiff,Nat.reduceLT,Nat.reduceAdd,Nat.reduceLeDiff,reduceCtorEq,goInt,pairs,isConst,TI.isAgg,splice,boxS,Edp,dpv,Nat.beq_eq,ZV.val,List.any_cons,List.any_nil,Bool.false_and,m1,s1,h0,h1,hlen,gk4]
   refine specNew (n := 4) ⟨by omega,by omega⟩ ?_
   simp (disch := first | assumption | simp) only [↓sbD,sbU,tyB,Nat.reduceMul,Nat.reduceSub,Int.reduceEq,Int.reduceLT,Int.reduceLE,Int.reduceNe,Nat.reduceBneDiff,Nat.reduceBEq,decide_false,gt_iff_lt,Bool.or_self,Bool.false_eq_true,Nat.mul_one,Nat.one_mul,Nat.zero_mul,↓reduceIte,Nat.reduceEqDiff,Nat.reduceLT,Nat.reduceAdd,Nat.reduceLeDiff,reduceCtorEq,goInt,pairs,isConst,TI.isAgg,splice,boxS,Edp,dpv,Nat.beq_eq,ZV.val,List.any_cons,List.any_nil,Bool.false_and]
   refine specFail hw' fun σ' k hi => ?_
   simp (disch := first | assumption | simp) only [↓sbD,sbU,tyB,Nat.reduceMul,Nat.reduceSub,Int.reduceEq,Int.reduceLT,Int.reduceLE,Int.reduceNe,Nat.reduceBneDiff,Nat.reduceBEq,decide_false,gt_iff_lt,Bool.or_self,Bool.false_eq_true,Nat.mul_one,Nat.one_mul,Nat.zero_mul,↓reduceIte,Nat.reduceEqDiff,Nat.reduceLT,Nat.reduceAdd,Nat.reduceLeDiff,reduceCtorEq,goInt,pairs,isConst,TI.isAgg,splice,boxS,Edp,dpv,Nat.beq_eq,ZV.val,List.any_cons,List.any_nil,Bool.false_and]
   exact downS_here (hgoal σ' k hi)
  ·have h8 : 4294967296 ≤ n := by omega
   simp (disch := first | assumption | simp) only [↓sbD,sbU,tyB,Nat.reduceMul,Nat.reduceSub,Int.reduceEq,Int.reduceLT,Int.reduceLE,Int.reduceNe,Nat.reduceBneDiff,Nat.reduceBEq,decide_false,gt_iff_lt,Bool.or_self,Bool.false_eq_true,Nat.mul_one,Nat.one_mul,Nat.zero_mul,↓reduceIte,Nat.reduceEqDiff,Nat.reduceLT,Nat.reduceAdd,Nat.reduceLeDiff,reduceCtorEq,goInt,pairs,isConst,TI.isAgg,splice,boxS,Edp,dpv,Nat.beq_eq,ZV.val,List.any_cons,List.any_nil,Bool.false_and,m1,s1,h0,h8,h1,hlen,gk4]
   refine specNew (n := 4) ⟨by omega,by omega⟩ ?_
   simp (disch := first | assumption | simp) only [↓sbD,sbU,tyB,Nat.reduceMul,Nat.reduceSub,Int.reduceEq,Int.reduceLT,Int.reduceLE,Int.reduceNe,Nat.reduceBneDiff,Nat.reduceBEq,decide_false,gt_iff_lt,Bool.or_self,Bool.false_eq_true,Nat.mul_one,Nat.one_mul,Nat.zero_mul,↓reduceIte,Nat.reduceEqDiff,Nat.reduceLT,Nat.reduceAdd,Nat.reduceLeDiff,reduceCtorEq,goInt,pairs,isConst,TI.isAgg,splice,boxS,Edp,dpv,Nat.beq_eq,ZV.val,List.any_cons,List.any_nil,Bool.false_and]
   refine specFail hw' fun σ' k hi => ?_
   simp (disch := first | assumption | simp) only [↓sbD,sbU,tyB,Nat.reduceMul,Nat.reduceSub,Int.reduceEq,Int.reduceLT,Int.reduceLE,Int.reduceNe,Nat.reduceBneDiff,Nat.reduceBEq,decide_false,gt_iff_lt,Bool.or_self,Bool.false_eq_true,Nat.mul_one,Nat.one_mul,Nat.zero_mul,↓reduceIte,Nat.reduceEqDiff,Nat.reduceLT,Nat.reduceAdd,Nat.reduceLeDiff,reduceCtorEq,goInt,pairs,isConst,TI.isAgg,splice,boxS,Edp,dpv,Nat.beq_eq,ZV.val,List.any_cons,List.any_nil,Bool.false_and]
   exact downS_here (hgoal σ' k hi)
 ·obtain ⟨N,rfl⟩ : ∃ N : Nat,n = N := ⟨n.toNat,by omega⟩
  have h0 : ¬ (N : Int) < 0 := by omega
  have h8 : ¬ (4294967296 : Int) ≤ N := by omega
  have hout : ∀ σ' fp',IsW σ' w (a ++ numB N 4) .nilIface fp' → WOut σ' w a (numW N 4) fp' := fun σ' fp' hi => by
   unfold numW
   rw [if_neg (by simp; omega)]
   exact hi
  have q16777216 : ∀ τ : AHeap,abin E τ .shr 3 true (.int .i64 (N : Int)) (.int .u64 24) = some (.int .i64 ((N / 16777216 : Nat) : Int)) := fun τ => shr_nat (s := 24) (by omega)
  have q65536 : ∀ τ : AHeap,abin E τ .shr 3 true (.int .i64 (N : Int)) (.int .u64 16) = some (.int .i64 ((N / 65536 : Nat) : Int)) := fun τ => shr_nat (s := 16) (by omega)
  have q256 : ∀ τ : AHeap,abin E τ .shr 3 true (.int .i64 (N : Int)) (.int .u64 8) = some (.int .i64 ((N / 256 : Nat) : Int)) := fun τ => shr_nat (s := 8) (by omega)
  simp (disch := first | assumption | simp) only [↓sbD,sbU,tyB,Nat.reduceMul,Nat.reduceSub,Int.reduceEq,Int.reduceLT,Int.reduceLE,Int.reduceNe,Nat.reduceBneDiff,Nat.reduceBEq,decide_false,gt_iff_lt,Bool.or_self,Bool.false_eq_true,Nat.mul_one,Nat.one_mul,Nat.zero_mul,↓reduceIte,Nat.reduceEqDiff,Nat.reduceLT,Nat.reduceAdd,Nat.reduceLeDiff,reduceCtorEq,goInt,pairs,isConst,TI.isAgg,splice,boxS,Edp,dpv,Nat.beq_eq,ZV.val,List.any_cons,List.any_nil,Bool.false_and,m1,s1,h0,h8,wrap_u8N,q16777216,q65536,q256,h1]
  refine bs_two fun b1 hb1 => ?_
  have kb1 : Kept σ [] (σ.set b1 (.cells (u8s [N / 16777216 % 256,N / 65536 % 256]) true 1)) [b1] := Kept.new' hb1
  have cb1 := (kb1.at h1 (by simp) (by simp)).1
  have hs1 := BS.kept h2 kb1 (fun _ _ h => by cases h)
  have hn1 : b1 ∉ gp := fun hm => by rcases BS.live h2 hm with ⟨cs,hg⟩; rw [hb1] at hg; cases hg
  have hnw1 : w ≠ b1 := by rintro rfl; rw [hb1] at h1; cases h1
  simp (disch := first | assumption | simp) only [↓sbD,sbU,tyB,Nat.reduceMul,Nat.reduceSub,Int.reduceEq,Int.reduceLT,Int.reduceLE,Int.reduceNe,Nat.reduceBneDiff,Nat.reduceBEq,decide_false,gt_iff_lt,Bool.or_self,Bool.false_eq_true,Nat.mul_one,Nat.one_mul,Nat.zero_mul,↓reduceIte,Nat.reduceEqDiff,Nat.reduceLT,Nat.reduceAdd,Nat.reduceLeDiff,reduceCtorEq,goInt,pairs,isConst,TI.isAgg,splice,boxS,Edp,dpv,Nat.beq_eq,ZV.val,List.any_cons,List.any_nil,Bool.false_and]
  refine app_sl hs1 (l := [N / 16777216 % 256,N / 65536 % 256]) (AHeap.get_set_same _ _ _) (by intro m hm; simp only [List.mem_cons,List.not_mem_nil,or_false] at hm; omega) rfl (by simp only [size_app,str_size,List.length_cons,List.length_nil]; omega) fun τ1 v1 gp1 k1 hb'1 vc1 oc1 => ?_
  obtain ⟨c1,n1⟩ := k1.at cb1 (by simp) h4
  simp (disch := first | assumption | simp) only [↓sbD,sbU,tyB,Nat.reduceMul,Nat.reduceSub,Int.reduceEq,Int.reduceLT,Int.reduceLE,Int.reduceNe,Nat.reduceBneDiff,Nat.reduceBEq,decide_false,gt_iff_lt,Bool.or_self,Bool.false_eq_true,Nat.mul_one,Nat.one_mul,Nat.zero_mul,↓reduceIte,Nat.reduceEqDiff,Nat.reduceLT,Nat.reduceAdd,Nat.reduceLeDiff,reduceCtorEq,goInt,pairs,isConst,TI.isAgg,splice,boxS,Edp,dpv,Nat.beq_eq,ZV.val,List.any_cons,List.any_nil,Bool.false_and,m1,s1,h0,h8,wrap_u8N,q16777216,q65536,q256,c1,vc1,oc1]
  have kk1 : Kept σ (w :: gp) (τ1.set w (.cells [v1,.nilIface] true 0)) (w :: gp1) := (Kept.trans (Kept.trans ⟨fun c hc _ => kb1.get c hc (by simp),fun c hc => .inl hc⟩ (k1.more (l := [w]))) (Kept.set (by simp)))
  have hz1 := BS.set (w := w) (o := .cells [v1,.nilIface] true 0) hb'1 n1
  have g1 := AHeap.get_set_same τ1 w (.cells [v1,.nilIface] true 0)
  try simp (disch := first | assumption | simp) only [↓sbD,sbU,tyB,Nat.reduceMul,Nat.reduceSub,Int.reduceEq,Int.reduceLT,Int.reduceLE,Int.reduceNe,Nat.reduceBneDiff,Nat.reduceBEq,decide_false,gt_iff_lt,Bool.or_self,Bool.false_eq_true,Nat.mul_one,Nat.one_mul,Nat.zero_mul,↓reduceIte,Nat.reduceEqDiff,Nat.reduceLT,Nat.reduceAdd,Nat.reduceLeDiff,reduceCtorEq,goInt,pairs,isConst,TI.isAgg,splice,boxS,Edp,dpv,Nat.beq_eq,ZV.val,List.any_cons,List.any_nil,Bool.false_and,m1,s1,h0,h8,wrap_u8N,q16777216,q65536,q256,g1]
  refine bs_one fun b2 hb2 => ?_
  have kb2 : Kept (τ1.set w (.cells [v1,.nilIface] true 0)) [] ((τ1.set w (.cells [v1,.nilIface] true 0)).set b2 (.cells (u8s [N / 256 % 256]) true 1)) [b2] := Kept.new' hb2
  have cb2 := (kb2.at g1 (by simp) (by simp)).1
  have hs2 := BS.kept hz1 kb2 (fun _ _ h => by cases h)
  have hn2 : b2 ∉ gp1 := fun hm => by rcases BS.live hz1 hm with ⟨cs,hg⟩; rw [hb2] at hg; cases hg
  have hnw2 : w ≠ b2 := by rintro rfl; rw [hb2] at g1; cases g1
  simp (disch := first | assumption | simp) only [↓sbD,sbU,tyB,Nat.reduceMul,Nat.reduceSub,Int.reduceEq,Int.reduceLT,Int.reduceLE,Int.reduceNe,Nat.reduceBneDiff,Nat.reduceBEq,decide_false,gt_iff_lt,Bool.or_self,Bool.false_eq_true,Nat.mul_one,Nat.one_mul,Nat.zero_mul,↓reduceIte,Nat.reduceEqDiff,Nat.reduceLT,Nat.reduceAdd,Nat.reduceLeDiff,reduceCtorEq,goInt,pairs,isConst,TI.isAgg,splice,boxS,Edp,dpv,Nat.beq_eq,ZV.val,List.any_cons,List.any_nil,Bool.false_and]
  refine app_sl hs2 (l := [N / 256 % 256]) (AHeap.get_set_same _ _ _) (by intro m hm; simp only [List.mem_cons,List.not_mem_nil,or_false] at hm; omega) rfl (by simp only [size_app,str_size,List.length_cons,List.length_nil]; omega) fun τ2 v2 gp2 k2 hb'2 vc2 oc2 => ?_
  obtain ⟨c2,n2⟩ := k2.at cb2 (by simp) n1
  simp (disch := first | assumption | simp) only [↓sbD,sbU,tyB,Nat.reduceMul,Nat.reduceSub,Int.reduceEq,Int.reduceLT,Int.reduceLE,Int.reduceNe,Nat.reduceBneDiff,Nat.reduceBEq,decide_false,gt_iff_lt,Bool.or_self,Bool.false_eq_true,Nat.mul_one,Nat.one_mul,Nat.zero_mul,↓reduceIte,Nat.reduceEqDiff,Nat.reduceLT,Nat.reduceAdd,Nat.reduceLeDiff,reduceCtorEq,goInt,pairs,isConst,TI.isAgg,splice,boxS,Edp,dpv,Nat.beq_eq,ZV.val,List.any_cons,List.any_nil,Bool.false_and,m1,s1,h0,h8,wrap_u8N,q16777216,q65536,q256,c2,vc2,oc2]
  have kk2 : Kept (τ1.set w (.cells [v1,.nilIface] true 0)) (w :: gp1) (τ2.set w (.cells [v2,.nilIface] true 0)) (w :: gp2) := (Kept.trans (Kept.trans ⟨fun c hc _ => kb2.get c hc (by simp),fun c hc => .inl hc⟩ (k2.more (l := [w]))) (Kept.set (by simp)))
  have hz2 := BS.set (w := w) (o := .cells [v2,.nilIface] true 0) hb'2 n2
  have g2 := AHeap.get_set_same τ2 w (.cells [v2,.nilIface] true 0)
  try simp (disch := first | assumption | simp) only [↓sbD,sbU,tyB,Nat.reduceMul,Nat.reduceSub,Int.reduceEq,Int.reduceLT,Int.reduceLE,Int.reduceNe,Nat.reduceBneDiff,Nat.reduceBEq,decide_false,gt_iff_lt,Bool.or_self,Bool.false_eq_true,Nat.mul_one,Nat.one_mul,Nat.zero_mul,↓reduceIte,Nat.reduceEqDiff,Nat.reduceLT,Nat.reduceAdd,Nat.reduceLeDiff,reduceCtorEq,goInt,pairs,isConst,TI.isAgg,splice,boxS,Edp,dpv,Nat.beq_eq,ZV.val,List.any_cons,List.any_nil,Bool.false_and,m1,s1,h0,h8,wrap_u8N,q16777216,q65536,q256,g2]
  refine bs_one fun b3 hb3 => ?_
  have kb3 : Kept (τ2.set w (.cells [v2,.nilIface] true 0)) [] ((τ2.set w (.cells [v2,.nilIface] true 0)).set b3 (.cells (u8s [N % 256]) true 1)) [b3] := Kept.new' hb3
  have cb3 := (kb3.at g2 (by simp) (by simp)).1
  have hs3 := BS.kept hz2 kb3 (fun _ _ h => by cases h)
  have hn3 : b3 ∉ gp2 := fun hm => by rcases BS.live hz2 hm with ⟨cs,hg⟩; rw [hb3] at hg; cases hg
  have hnw3 : w ≠ b3 := by rintro rfl; rw [hb3] at g2; cases g2
  simp (disch := first | assumption | simp) only [↓sbD,sbU,tyB,Nat.reduceMul,Nat.reduceSub,Int.reduceEq,Int.reduceLT,Int.reduceLE,Int.reduceNe,Nat.reduceBneDiff,Nat.reduceBEq,decide_false,gt_iff_lt,Bool.or_self,Bool.false_eq_true,Nat.mul_one,Nat.one_mul,Nat.zero_mul,↓reduceIte,Nat.reduceEqDiff,Nat.reduceLT,Nat.reduceAdd,Nat.reduceLeDiff,reduceCtorEq,goInt,pairs,isConst,TI.isAgg,splice,boxS,Edp,dpv,Nat.beq_eq,ZV.val,List.any_cons,List.any_nil,Bool.false_and]
  refine app_sl hs3 (l := [N % 256]) (AHeap.get_set_same _ _ _) (by intro m hm; simp only [List.mem_cons,List.not_mem_nil,or_false] at hm; omega) rfl (by simp only [size_app,str_size,List.length_cons,List.length_nil]; omega) fun τ3 v3 gp3 k3 hb'3 vc3 oc3 => ?_
  obtain ⟨c3,n3⟩ := k3.at cb3 (by simp) n2
  simp (disch := first | assumption | simp) only [↓sbD,sbU,tyB,Nat.reduceMul,Nat.reduceSub,Int.reduceEq,Int.reduceLT,Int.reduceLE,Int.reduceNe,Nat.reduceBneDiff,Nat.reduceBEq,decide_false,gt_iff_lt,Bool.or_self,Bool.false_eq_true,Nat.mul_one,Nat.one_mul,Nat.zero_mul,↓reduceIte,Nat.reduceEqDiff,Nat.reduceLT,Nat.reduceAdd,Nat.reduceLeDiff,reduceCtorEq,goInt,pairs,isConst,TI.isAgg,splice,boxS,Edp,dpv,Nat.beq_eq,ZV.val,List.any_cons,List.any_nil,Bool.false_and,m1,s1,h0,h8,wrap_u8N,q16777216,q65536,q256,c3,vc3,oc3]
  have kk3 : Kept (τ2.set w (.cells [v2,.nilIface] true 0)) (w :: gp2) (τ3.set w (.cells [v3,.nilIface] true 0)) (w :: gp3) := (Kept.trans (Kept.trans ⟨fun c hc _ => kb3.get c hc (by simp),fun c hc => .inl hc⟩ (k3.more (l := [w]))) (Kept.set (by simp)))
  have hz3 := BS.set (w := w) (o := .cells [v3,.nilIface] true 0) hb'3 n3
  have g3 := AHeap.get_set_same τ3 w (.cells [v3,.nilIface] true 0)
  refine downS_here (h _ _ ((kk1.trans kk2).trans kk3) (hout _ _ ⟨v3,gp3,g3,?_,rfl,n3⟩))
  have e : a ++ numB N 4 = a ++ str [N / 16777216 % 256,N / 65536 % 256] ++ str [N / 256 % 256] ++ str [N % 256] := by simp only [numB]; simp [app_assoc,str_app]
  rw [e]; exact hz3
section
variable {σ : AHeap} {w : Nat} {a s : ByteArray} {fp : List Nat} {n : Int} {Q : Value → AHeap → Prop}
theorem specNumWE {u : Nat} {x : Value} {k : Int} (hw : IsW σ w a (.iface u x) fp) (h : Q unit σ) : CallS E B 27 [.pointer (some ⟨w,0,none⟩),.int .i64 n,.int .i64 k] σ Q := by
 refine call27 (by simp) ?_
 simp only [strip,bodyOf,Tryd.f27,getD_body,keepN,bareOp_mk,lessOp_mk,lapp_cons,lapp_nil,List.map_cons,List.map_nil,array_toList,↓reduceIte,Nat.reduceEqDiff,Bool.false_eq_true]
 simp (disch := first | assumption | simp) only [↓sbD,sbU,tyB,Nat.reduceMul,Nat.reduceSub,Int.reduceEq,Int.reduceLT,Int.reduceLE,Int.reduceNe,Nat.reduceBneDiff,Nat.reduceBEq,decide_false,gt_iff_lt,Bool.or_self,Bool.false_eq_true,Nat.mul_one,Nat.one_mul,Nat.zero_mul,↓reduceIte,Nat.reduceEqDiff,Nat.reduceLT,Nat.reduceAdd,Nat.reduceLeDiff,reduceCtorEq,goInt,pairs,isConst,TI.isAgg,splice,boxS,Edp,dpv,Nat.beq_eq,ZV.val,List.any_cons,List.any_nil,Bool.false_and]
 refine specOffE hw ?_
 simp (disch := first | assumption | simp) only [↓sbD,sbU,tyB,Nat.reduceMul,Nat.reduceSub,Int.reduceEq,Int.reduceLT,Int.reduceLE,Int.reduceNe,Nat.reduceBneDiff,Nat.reduceBEq,decide_false,gt_iff_lt,Bool.or_self,Bool.false_eq_true,Nat.mul_one,Nat.one_mul,Nat.zero_mul,↓reduceIte,Nat.reduceEqDiff,Nat.reduceLT,Nat.reduceAdd,Nat.reduceLeDiff,reduceCtorEq,goInt,pairs,isConst,TI.isAgg,splice,boxS,Edp,dpv,Nat.beq_eq,ZV.val,List.any_cons,List.any_nil,Bool.false_and]
 exact downS_here h
theorem specU8 (hw : IsW σ w a .nilIface fp) (hz : a.size ≤ 10000000) (h : ∀ σ' fp',Kept σ fp σ' fp' → WOut σ' w a (numW n 1) fp' → Q unit σ') : CallS E B 18 [.pointer (some ⟨w,0,none⟩),.int .i64 n] σ Q := by
 refine call18 (by simp) ?_
 simp only [strip,bodyOf,Tryd.f18,getD_body,keepN,bareOp_mk,lessOp_mk,lapp_cons,lapp_nil,List.map_cons,List.map_nil,array_toList,↓reduceIte,Nat.reduceEqDiff,Bool.false_eq_true]
 simp (disch := first | assumption | simp) only [↓sbD,sbU,tyB,Nat.reduceMul,Nat.reduceSub,Int.reduceEq,Int.reduceLT,Int.reduceLE,Int.reduceNe,Nat.reduceBneDiff,Nat.reduceBEq,decide_false,gt_iff_lt,Bool.or_self,Bool.false_eq_true,Nat.mul_one,Nat.one_mul,Nat.zero_mul,↓reduceIte,Nat.reduceEqDiff,Nat.reduceLT,Nat.reduceAdd,Nat.reduceLeDiff,reduceCtorEq,goInt,pairs,isConst,TI.isAgg,splice,boxS,Edp,dpv,Nat.beq_eq,ZV.val,List.any_cons,List.any_nil,Bool.false_and]
 refine specNumW1 hw hz fun σ' fp' k ho => ?_
 simp (disch := first | assumption | simp) only [↓sbD,sbU,tyB,Nat.reduceMul,Nat.reduceSub,Int.reduceEq,Int.reduceLT,Int.reduceLE,Int.reduceNe,Nat.reduceBneDiff,Nat.reduceBEq,decide_false,gt_iff_lt,Bool.or_self,Bool.false_eq_true,Nat.mul_one,Nat.one_mul,Nat.zero_mul,↓reduceIte,Nat.reduceEqDiff,Nat.reduceLT,Nat.reduceAdd,Nat.reduceLeDiff,reduceCtorEq,goInt,pairs,isConst,TI.isAgg,splice,boxS,Edp,dpv,Nat.beq_eq,ZV.val,List.any_cons,List.any_nil,Bool.false_and]
 exact downS_here (h σ' fp' k ho)
theorem specU16 (hw : IsW σ w a .nilIface fp) (hz : a.size ≤ 10000000) (h : ∀ σ' fp',Kept σ fp σ' fp' → WOut σ' w a (numW n 2) fp' → Q unit σ') : CallS E B 16 [.pointer (some ⟨w,0,none⟩),.int .i64 n] σ Q := by
 refine call16 (by simp) ?_
 simp only [strip,bodyOf,Tryd.f16,getD_body,keepN,bareOp_mk,lessOp_mk,lapp_cons,lapp_nil,List.map_cons,List.map_nil,array_toList,↓reduceIte,Nat.reduceEqDiff,Bool.false_eq_true]
 simp (disch := first | assumption | simp) only [↓sbD,sbU,tyB,Nat.reduceMul,Nat.reduceSub,Int.reduceEq,Int.reduceLT,Int.reduceLE,Int.reduceNe,Nat.reduceBneDiff,Nat.reduceBEq,decide_false,gt_iff_lt,Bool.or_self,Bool.false_eq_true,Nat.mul_one,Nat.one_mul,Nat.zero_mul,↓reduceIte,Nat.reduceEqDiff,Nat.reduceLT,Nat.reduceAdd,Nat.reduceLeDiff,reduceCtorEq,goInt,pairs,isConst,TI.isAgg,splice,boxS,Edp,dpv,Nat.beq_eq,ZV.val,List.any_cons,List.any_nil,Bool.false_and]
 refine specNumW2 hw hz fun σ' fp' k ho => ?_
 simp (disch := first | assumption | simp) only [↓sbD,sbU,tyB,Nat.reduceMul,Nat.reduceSub,Int.reduceEq,Int.reduceLT,Int.reduceLE,Int.reduceNe,Nat.reduceBneDiff,Nat.reduceBEq,decide_false,gt_iff_lt,Bool.or_self,Bool.false_eq_true,Nat.mul_one,Nat.one_mul,Nat.zero_mul,↓reduceIte,Nat.reduceEqDiff,Nat.reduceLT,Nat.reduceAdd,Nat.reduceLeDiff,reduceCtorEq,goInt,pairs,isConst,TI.isAgg,splice,boxS,Edp,dpv,Nat.beq_eq,ZV.val,List.any_cons,List.any_nil,Bool.false_and]
 exact downS_here (h σ' fp' k ho)
theorem specU32 (hw : IsW σ w a .nilIface fp) (hz : a.size ≤ 10000000) (h : ∀ σ' fp',Kept σ fp σ' fp' → WOut σ' w a (numW n 4) fp' → Q unit σ') : CallS E B 15 [.pointer (some ⟨w,0,none⟩),.int .i64 n] σ Q := by
 refine call15 (by simp) ?_
 simp only [strip,bodyOf,Tryd.f15,getD_body,keepN,bareOp_mk,lessOp_mk,lapp_cons,lapp_nil,List.map_cons,List.map_nil,array_toList,↓reduceIte,Nat.reduceEqDiff,Bool.false_eq_true]
 simp (disch := first | assumption | simp) only [↓sbD,sbU,tyB,Nat.reduceMul,Nat.reduceSub,Int.reduceEq,Int.reduceLT,Int.reduceLE,Int.reduceNe,Nat.reduceBneDiff,Nat.reduceBEq,decide_false,gt_iff_lt,Bool.or_self,Bool.false_eq_true,Nat.mul_one,Nat.one_mul,Nat.zero_mul,↓reduceIte,Nat.reduceEqDiff,Nat.reduceLT,Nat.reduceAdd,Nat.reduceLeDiff,reduceCtorEq,goInt,pairs,isConst,TI.isAgg,splice,boxS,Edp,dpv,Nat.beq_eq,ZV.val,List.any_cons,List.any_nil,Bool.false_and]
 refine specNumW4 hw hz fun σ' fp' k ho => ?_
 simp (disch := first | assumption | simp) only [↓sbD,sbU,tyB,Nat.reduceMul,Nat.reduceSub,Int.reduceEq,Int.reduceLT,Int.reduceLE,Int.reduceNe,Nat.reduceBneDiff,Nat.reduceBEq,decide_false,gt_iff_lt,Bool.or_self,Bool.false_eq_true,Nat.mul_one,Nat.one_mul,Nat.zero_mul,↓reduceIte,Nat.reduceEqDiff,Nat.reduceLT,Nat.reduceAdd,Nat.reduceLeDiff,reduceCtorEq,goInt,pairs,isConst,TI.isAgg,splice,boxS,Edp,dpv,Nat.beq_eq,ZV.val,List.any_cons,List.any_nil,Bool.false_and]
 exact downS_here (h σ' fp' k ho)
theorem specU8E {u : Nat} {x : Value} (hw : IsW σ w a (.iface u x) fp) (h : Q unit σ) : CallS E B 18 [.pointer (some ⟨w,0,none⟩),.int .i64 n] σ Q := by
 refine call18 (by simp) ?_
 simp only [strip,bodyOf,Tryd.f18,getD_body,keepN,bareOp_mk,lessOp_mk,lapp_cons,lapp_nil,List.map_cons,List.map_nil,array_toList,↓reduceIte,Nat.reduceEqDiff,Bool.false_eq_true]
 simp (disch := first | assumption | simp) only [↓sbD,sbU,tyB,Nat.reduceMul,Nat.reduceSub,Int.reduceEq,Int.reduceLT,Int.reduceLE,Int.reduceNe,Nat.reduceBneDiff,Nat.reduceBEq,decide_false,gt_iff_lt,Bool.or_self,Bool.false_eq_true,Nat.mul_one,Nat.one_mul,Nat.zero_mul,↓reduceIte,Nat.reduceEqDiff,Nat.reduceLT,Nat.reduceAdd,Nat.reduceLeDiff,reduceCtorEq,goInt,pairs,isConst,TI.isAgg,splice,boxS,Edp,dpv,Nat.beq_eq,ZV.val,List.any_cons,List.any_nil,Bool.false_and]
 refine specNumWE hw ?_
 simp (disch := first | assumption | simp) only [↓sbD,sbU,tyB,Nat.reduceMul,Nat.reduceSub,Int.reduceEq,Int.reduceLT,Int.reduceLE,Int.reduceNe,Nat.reduceBneDiff,Nat.reduceBEq,decide_false,gt_iff_lt,Bool.or_self,Bool.false_eq_true,Nat.mul_one,Nat.one_mul,Nat.zero_mul,↓reduceIte,Nat.reduceEqDiff,Nat.reduceLT,Nat.reduceAdd,Nat.reduceLeDiff,reduceCtorEq,goInt,pairs,isConst,TI.isAgg,splice,boxS,Edp,dpv,Nat.beq_eq,ZV.val,List.any_cons,List.any_nil,Bool.false_and]
 exact downS_here h
theorem specU16E {u : Nat} {x : Value} (hw : IsW σ w a (.iface u x) fp) (h : Q unit σ) : CallS E B 16 [.pointer (some ⟨w,0,none⟩),.int .i64 n] σ Q := by
 refine call16 (by simp) ?_
 simp only [strip,bodyOf,Tryd.f16,getD_body,keepN,bareOp_mk,lessOp_mk,lapp_cons,lapp_nil,List.map_cons,List.map_nil,array_toList,↓reduceIte,Nat.reduceEqDiff,Bool.false_eq_true]
 simp (disch := first | assumption | simp) only [↓sbD,sbU,tyB,Nat.reduceMul,Nat.reduceSub,Int.reduceEq,Int.reduceLT,Int.reduceLE,Int.reduceNe,Nat.reduceBneDiff,Nat.reduceBEq,decide_false,gt_iff_lt,Bool.or_self,Bool.false_eq_true,Nat.mul_one,Nat.one_mul,Nat.zero_mul,↓reduceIte,Nat.reduceEqDiff,Nat.reduceLT,Nat.reduceAdd,Nat.reduceLeDiff,reduceCtorEq,goInt,pairs,isConst,TI.isAgg,splice,boxS,Edp,dpv,Nat.beq_eq,ZV.val,List.any_cons,List.any_nil,Bool.false_and]
 refine specNumWE hw ?_
 simp (disch := first | assumption | simp) only [↓sbD,sbU,tyB,Nat.reduceMul,Nat.reduceSub,Int.reduceEq,Int.reduceLT,Int.reduceLE,Int.reduceNe,Nat.reduceBneDiff,Nat.reduceBEq,decide_false,gt_iff_lt,Bool.or_self,Bool.false_eq_true,Nat.mul_one,Nat.one_mul,Nat.zero_mul,↓reduceIte,Nat.reduceEqDiff,Nat.reduceLT,Nat.reduceAdd,Nat.reduceLeDiff,reduceCtorEq,goInt,pairs,isConst,TI.isAgg,splice,boxS,Edp,dpv,Nat.beq_eq,ZV.val,List.any_cons,List.any_nil,Bool.false_and]
 exact downS_here h
theorem specU32E {u : Nat} {x : Value} (hw : IsW σ w a (.iface u x) fp) (h : Q unit σ) : CallS E B 15 [.pointer (some ⟨w,0,none⟩),.int .i64 n] σ Q := by
 refine call15 (by simp) ?_
 simp only [strip,bodyOf,Tryd.f15,getD_body,keepN,bareOp_mk,lessOp_mk,lapp_cons,lapp_nil,List.map_cons,List.map_nil,array_toList,↓reduceIte,Nat.reduceEqDiff,Bool.false_eq_true]
 simp (disch := first | assumption | simp) only [↓sbD,sbU,tyB,Nat.reduceMul,Nat.reduceSub,Int.reduceEq,Int.reduceLT,Int.reduceLE,Int.reduceNe,Nat.reduceBneDiff,Nat.reduceBEq,decide_false,gt_iff_lt,Bool.or_self,Bool.false_eq_true,Nat.mul_one,Nat.one_mul,Nat.zero_mul,↓reduceIte,Nat.reduceEqDiff,Nat.reduceLT,Nat.reduceAdd,Nat.reduceLeDiff,reduceCtorEq,goInt,pairs,isConst,TI.isAgg,splice,boxS,Edp,dpv,Nat.beq_eq,ZV.val,List.any_cons,List.any_nil,Bool.false_and]
 refine specNumWE hw ?_
 simp (disch := first | assumption | simp) only [↓sbD,sbU,tyB,Nat.reduceMul,Nat.reduceSub,Int.reduceEq,Int.reduceLT,Int.reduceLE,Int.reduceNe,Nat.reduceBneDiff,Nat.reduceBEq,decide_false,gt_iff_lt,Bool.or_self,Bool.false_eq_true,Nat.mul_one,Nat.one_mul,Nat.zero_mul,↓reduceIte,Nat.reduceEqDiff,Nat.reduceLT,Nat.reduceAdd,Nat.reduceLeDiff,reduceCtorEq,goInt,pairs,isConst,TI.isAgg,splice,boxS,Edp,dpv,Nat.beq_eq,ZV.val,List.any_cons,List.any_nil,Bool.false_and]
 exact downS_here h
theorem specRawE {u : Nat} {x : Value} (hw : IsW σ w a (.iface u x) fp) (h : Q unit σ) : CallS E B 13 [.pointer (some ⟨w,0,none⟩),.string s] σ Q := by
 refine call13 (by simp) ?_
 simp only [strip,bodyOf,Tryd.f13,getD_body,keepN,bareOp_mk,lessOp_mk,lapp_cons,lapp_nil,List.map_cons,List.map_nil,array_toList,↓reduceIte,Nat.reduceEqDiff,Bool.false_eq_true]
 simp (disch := first | assumption | simp) only [↓sbD,sbU,tyB,Nat.reduceMul,Nat.reduceSub,Int.reduceEq,Int.reduceLT,Int.reduceLE,Int.reduceNe,Nat.reduceBneDiff,Nat.reduceBEq,decide_false,gt_iff_lt,Bool.or_self,Bool.false_eq_true,Nat.mul_one,Nat.one_mul,Nat.zero_mul,↓reduceIte,Nat.reduceEqDiff,Nat.reduceLT,Nat.reduceAdd,Nat.reduceLeDiff,reduceCtorEq,goInt,pairs,isConst,TI.isAgg,splice,boxS,Edp,dpv,Nat.beq_eq,ZV.val,List.any_cons,List.any_nil,Bool.false_and]
 refine specOffE hw ?_
 simp (disch := first | assumption | simp) only [↓sbD,sbU,tyB,Nat.reduceMul,Nat.reduceSub,Int.reduceEq,Int.reduceLT,Int.reduceLE,Int.reduceNe,Nat.reduceBneDiff,Nat.reduceBEq,decide_false,gt_iff_lt,Bool.or_self,Bool.false_eq_true,Nat.mul_one,Nat.one_mul,Nat.zero_mul,↓reduceIte,Nat.reduceEqDiff,Nat.reduceLT,Nat.reduceAdd,Nat.reduceLeDiff,reduceCtorEq,goInt,pairs,isConst,TI.isAgg,splice,boxS,Edp,dpv,Nat.beq_eq,ZV.val,List.any_cons,List.any_nil,Bool.false_and,not_bool]
 exact downS_here h
end
end Go.Proofs.YtdiekikcnfjlnaaDoor.AbsA
