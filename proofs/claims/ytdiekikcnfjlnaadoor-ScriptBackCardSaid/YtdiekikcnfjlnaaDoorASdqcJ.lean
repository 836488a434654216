/-
  Parts of a law's proof.
-/
import Derived.Test.YtdiekikcnfjlnaaDoorAScqdJ
import Derived.Test.YtdiekikcnfjlnaaDoorAFwqdJ
namespace Go.Proofs.YtdiekikcnfjlnaaDoor.AbsA
open Go AbsYtdiekikcnfjlnaaDoor Abs
set_option maxRecDepth 100000
set_option maxHeartbeats 4000000
set_option linter.unusedSimpArgs false
set_option linter.unusedVariables false
attribute [local irreducible] afterS afterOpS opSK OpsS TrS CodeS condS condW thenS thenQ guardS guardTS outS drawS trSK consS
def WX (σ : AHeap) (w : Nat) (o : Option ByteArray) (fp : List Nat) : Prop := match o with
 | some a => IsW σ w a .nilIface fp
 | none => ∃ u x a,IsW σ w a (.iface u x) fp
def wr (o : Option ByteArray) (r : ByteArray ⊕ (Nat × Nat)) : Option ByteArray := match o,r with
 | some a,.inl m => some (a ++ m)
 | _,_ => none
theorem IsW.live {σ : AHeap} {w : Nat} {a : ByteArray} {e : Value} {fp : List Nat} (h : IsW σ w a e fp) {b : Nat} (hb : b ∈ fp) : σ.get b ≠ .dead := by
 obtain ⟨v,gp,h1,h2,rfl,h4⟩ := h
 rcases List.mem_cons.1 hb with rfl | hb
 ·rw [h1]; simp
 ·obtain ⟨cs,hc⟩ := h2.live hb; rw [hc]; simp
theorem WX.live {σ : AHeap} {w : Nat} {o : Option ByteArray} {fp : List Nat} (h : WX σ w o fp) {b : Nat} (hb : b ∈ fp) : σ.get b ≠ .dead := by
 cases o with
 | some a => exact IsW.live h hb
 | none => obtain ⟨u,x,a,h⟩ := h; exact h.live hb
theorem WX.kept {σ σ' : AHeap} {w : Nat} {o : Option ByteArray} {fp gp gp' : List Nat} (h : WX σ w o fp) (k : Kept σ gp σ' gp') (hd : ∀ b ∈ fp,b ∉ gp) : WX σ' w o fp := by
 cases o with
 | some a => exact IsW.kept h k hd
 | none => obtain ⟨u,x,a,h⟩ := h; exact ⟨u,x,a,h.kept k hd⟩
theorem WX.out {σ : AHeap} {w : Nat} {a : ByteArray} {r : ByteArray ⊕ (Nat × Nat)} {fp : List Nat} (h : WOut σ w a r fp) : WX σ w (wr (some a) r) fp := by
 cases r with
 | inl m => exact h
 | inr p => obtain ⟨n,p⟩ := p; obtain ⟨d,x,_,_,h⟩ := h; exact ⟨_,_,_,h⟩
section
variable {σ : AHeap} {Q : Value → AHeap → Prop} {w : Nat} {o : Option ByteArray} {fp : List Nat} {n : Int} {s : ByteArray}
theorem specU8G (hw : WX σ w o fp) (hz : ∀ a,o = some a → a.size ≤ 10000000) (h : ∀ σ' fp',Kept σ fp σ' fp' → WX σ' w (wr o (numW n 1)) fp' → Q unit σ') : CallS E B 18 [.pointer (some ⟨w,0,none⟩),.int .i64 n] σ Q := by
 cases o with
 | some a => exact specU8 hw (hz a rfl) fun σ' fp' k ho => h σ' fp' k (.out ho)
 | none => obtain ⟨u,x,a,hw⟩ := hw; exact specU8E hw (h σ fp (Kept.refl σ fp) ⟨u,x,a,hw⟩)
theorem specU32G (hw : WX σ w o fp) (hz : ∀ a,o = some a → a.size ≤ 10000000) (h : ∀ σ' fp',Kept σ fp σ' fp' → WX σ' w (wr o (numW n 4)) fp' → Q unit σ') : CallS E B 15 [.pointer (some ⟨w,0,none⟩),.int .i64 n] σ Q := by
 cases o with
 | some a => exact specU32 hw (hz a rfl) fun σ' fp' k ho => h σ' fp' k (.out ho)
 | none => obtain ⟨u,x,a,hw⟩ := hw; exact specU32E hw (h σ fp (Kept.refl σ fp) ⟨u,x,a,hw⟩)
theorem specBinG (hw : WX σ w o fp) (hz : ∀ a,o = some a → a.size ≤ 10000000) (hs : s.size ≤ 1000000) (h : ∀ σ' fp',Kept σ fp σ' fp' → WX σ' w (wr o (binW s)) fp' → Q unit σ') : CallS E B 19 [.pointer (some ⟨w,0,none⟩),.string s] σ Q := by
 cases o with
 | some a => exact specBin hw (hz a rfl) hs fun σ' fp' k ho => h σ' fp' k (.out ho)
 | none => obtain ⟨u,x,a,hw⟩ := hw; exact specBinE hw (h σ fp (Kept.refl σ fp) ⟨u,x,a,hw⟩)
end
def evW (o : Option ByteArray) (e : Ev) : Option ByteArray := wr (wr (wr (wr o (numW e.k 1)) (numW e.c 1)) (numW e.n 4)) (binW e.b)
theorem evW_ok {a : ByteArray} {e : Ev} (h : okE e) : evW (some a) e = some (a ++ ev1 e) := by
 obtain ⟨⟨k1,k2⟩,⟨c1,c2⟩,⟨n1,n2⟩,hb⟩ := h
 unfold evW numW binW
 rw [if_neg (by simp; omega),if_neg (by simp; omega),if_neg (by simp; omega),if_neg (by omega)]
 simp only [wr,ev1,app_assoc]
theorem evW_bad {a : ByteArray} {e : Ev} (hk : 1 ≤ e.k ∧ e.k ≤ 7) (h : ¬ okE e) : evW (some a) e = none := by
 unfold evW numW binW
 rw [if_neg (by simp; omega)]
 simp only [wr]
 by_cases hc : e.c < 0 ∨ (2 ^ (8 * 1) : Nat) ≤ e.c
 ·rw [if_pos hc]
 rw [if_neg hc]
 simp only
 by_cases hn : e.n < 0 ∨ (2 ^ (8 * 4) : Nat) ≤ e.n
 ·rw [if_pos hn]
 rw [if_neg hn]
 simp only
 by_cases hb : 65535 < e.b.size
 ·rw [if_pos hb]
 ·exfalso; apply h
  refine ⟨hk,?_,?_,by omega⟩
  ·simp at hc; omega
  ·simp at hn; unfold okI; omega
def intC (n : Int) : List Value := [.int .i64 n]
theorem DLi.len {v : Value} {l : List Int} (h : DL intC 1 v l) (σ : AHeap) : abuiltin E σ .len [47] [v] = some (.int .i64 (l.length : Int),σ) := by
 rcases h with ⟨rfl,rfl⟩ | ⟨m,rfl⟩ <;> rfl
theorem DLi.at {v : Value} {l : List Int} (h : DL intC 1 v l) {i : Nat} (hi : i < l.length) : aindexAddr E 47 v (.int .i64 (i : Int)) = some (dptr (intC l[i] ++ (l.drop (i + 1)).flatMap intC)) := by
 rcases h with ⟨rfl,rfl⟩ | ⟨m,rfl⟩
 ·simp at hi
 ·rw [ia_dsl hi,drop_flat (enc := intC) (sz := 1) (fun a => rfl) hi]; rfl
theorem DLe.len {v : Value} {l : List Ev} (h : DL evC 4 v l) (σ : AHeap) : abuiltin E σ .len [24] [v] = some (.int .i64 (l.length : Int),σ) := by
 rcases h with ⟨rfl,rfl⟩ | ⟨m,rfl⟩ <;> rfl
theorem DLe.at {v : Value} {l : List Ev} (h : DL evC 4 v l) {i : Nat} (hi : i < l.length) : aindexAddr E 24 v (.int .i64 (i : Int)) = some (dptr (evC l[i] ++ (l.drop (i + 1)).flatMap evC)) := by
 rcases h with ⟨rfl,rfl⟩ | ⟨m,rfl⟩
 ·simp at hi
 ·rw [ia_dsl hi,drop_flat (enc := evC) (sz := 4) (fun a => rfl) hi]; rfl
theorem tot_take : ∀ (l : List Ev) (i : Nat),tot (l.take i) ≤ tot l
 | [],i => by simp [tot]
 | e :: l,0 => by simp [tot]
 | e :: l,i + 1 => by rw [List.take_succ_cons]; unfold tot; have := tot_take l i; omega
theorem tot_mem : ∀ {l : List Ev} {e : Ev},e ∈ l → 8 + e.b.size ≤ tot l
 | [],e,h => by simp at h
 | a :: l,e,h => by
  unfold tot
  rcases List.mem_cons.1 h with rfl | h
  ·omega
  ·have := tot_mem h; omega
theorem tot_len : ∀ (l : List Ev),8 * l.length ≤ tot l
 | [] => by simp [tot]
 | a :: l => by unfold tot; have := tot_len l; rw [List.length_cons]; omega
section
variable {σ : AHeap} {Q : Value → AHeap → Prop}
theorem specSBounds {l : List Int} (hl : l.length = 13) (h : ∀ v,DL intC 1 v l → Q v σ) : CallS E B 14 [.agg ⟨cfgC l⟩] σ Q := by
 match l,hl with
 | [x0,x1,x2,x3,x4,x5,x6,x7,x8,x9,x10,x11,x12],_ =>
  simp only [cfgC,List.map_cons,List.map_nil]
  refine call14 (by simp) ?_
  simp only [strip,bodyOf,Tryd.f14,getD_body,keepN,bareOp_mk,lessOp_mk,lapp_cons,lapp_nil,List.map_cons,List.map_nil,array_toList,↓reduceIte,Nat.reduceEqDiff,Bool.false_eq_true]
  simp (disch := first | assumption | simp) only [↓sbD,sbU,tyB,Nat.reduceMul,Nat.reduceSub,Int.reduceEq,Int.reduceLT,Int.reduceLE,Int.reduceNe,Nat.reduceBneDiff,Nat.reduceBEq,decide_false,gt_iff_lt,Bool.or_self,Bool.false_eq_true,Nat.mul_one,Nat.one_mul,Nat.zero_mul,↓reduceIte,Nat.reduceEqDiff,Nat.reduceLT,Nat.reduceAdd,Nat.reduceLeDiff,reduceCtorEq,goInt,pairs,isConst,TI.isAgg,splice,boxS,Edp,dpv,Nat.beq_eq,ZV.val,List.any_cons,List.any_nil,Bool.false_and,AS_new,dpC]
  intro b hb
  exact downS_le (Le.new hb) (h _ (.inr ⟨1,rfl⟩))
theorem zeW : azero E 45 = some [.slice none 0 0,.nilIface] := rfl
theorem dpW : dp 45 = false := rfl
theorem dpEv : dp 36 = false := rfl
end
theorem wr_sz {o : Option ByteArray} {r : ByteArray ⊕ (Nat × Nat)} {N M : Nat} (h1 : ∀ a,o = some a → a.size ≤ N) (h2 : ∀ m,r = .inl m → m.size ≤ M) : ∀ a,wr o r = some a → a.size ≤ N + M := by
 intro a h
 unfold wr at h
 split at h
 ·rename_i x m
  injection h with h; subst h
  rw [ByteArray.size_append]
  have := h1 x rfl; have := h2 m rfl
  omega
 ·cases h
section
variable {σ : AHeap} {Q : Value → AHeap → Prop}
theorem specSPut {c : List Int} {l : List Ev} {v : Value} (hc : c.length = 13) (hv : DL evC 4 v l) (hz : tot l ≤ 900000) (hok : putOk c l → Q (.tuple #[.string (putB c l),.nilIface]) σ) (hbad : ¬ putOk c l → ∀ u x,Q (.tuple #[.string ⟨#[]⟩,.iface u x]) σ) :
  CallS E B 6 [.agg ⟨cfgC c⟩,v] σ Q := by
 have hlen := DLe.len hv
 have htl := tot_len l
 obtain ⟨x0,x1,x2,x3,x4,x5,x6,x7,x8,x9,x10,x11,x12,hce⟩ := len13 hc
 have hcl : cfgC c = [.int .i64 x0,.int .i64 x1,.int .i64 x2,.int .i64 x3,.int .i64 x4,.int .i64 x5,.int .i64 x6,.int .i64 x7,.int .i64 x8,.int .i64 x9,.int .i64 x10,.int .i64 x11,.int .i64 x12] := by rw [hce]; rfl
 refine call6 (by simp) ?_
 simp only [strip,bodyOf,Tryd.f6,getD_body,keepN,bareOp_mk,lessOp_mk,lapp_cons,lapp_nil,List.map_cons,List.map_nil,array_toList,↓reduceIte,Nat.reduceEqDiff,Bool.false_eq_true]
 rw [hcl]
 simp (disch := first | assumption | simp) only [↓sbD,sbU,tyB,Nat.reduceMul,Nat.reduceSub,Int.reduceEq,Int.reduceLT,Int.reduceLE,Int.reduceNe,Nat.reduceBneDiff,Nat.reduceBEq,decide_false,gt_iff_lt,Bool.or_self,Bool.false_eq_true,Nat.mul_one,Nat.one_mul,Nat.zero_mul,↓reduceIte,Nat.reduceEqDiff,Nat.reduceLT,Nat.reduceAdd,Nat.reduceLeDiff,reduceCtorEq,goInt,pairs,isConst,TI.isAgg,splice,boxS,Edp,dpv,Nat.beq_eq,ZV.val,List.any_cons,List.any_nil,Bool.false_and,AS_new,dpC]
 intro b hb
 generalize hσ1 : AHeap.set σ b _ = σ1
 have k1 : Kept σ [] σ1 [] := by rw [← hσ1]; exact (Kept.refl σ []).setD hb
 have gb1 : σ1.get b = .cells [.int .i64 x0,.int .i64 x1,.int .i64 x2,.int .i64 x3,.int .i64 x4,.int .i64 x5,.int .i64 x6,.int .i64 x7,.int .i64 x8,.int .i64 x9,.int .i64 x10,.int .i64 x11,.int .i64 x12] true 0 := by rw [← hσ1]; exact AHeap.get_set_same _ _ _
 clear hσ1
 try simp (disch := first | assumption | simp) only [↓sbD,sbU,tyB,Nat.reduceMul,Nat.reduceSub,Int.reduceEq,Int.reduceLT,Int.reduceLE,Int.reduceNe,Nat.reduceBneDiff,Nat.reduceBEq,decide_false,gt_iff_lt,Bool.or_self,Bool.false_eq_true,Nat.mul_one,Nat.one_mul,Nat.zero_mul,↓reduceIte,Nat.reduceEqDiff,Nat.reduceLT,Nat.reduceAdd,Nat.reduceLeDiff,reduceCtorEq,goInt,pairs,isConst,TI.isAgg,splice,boxS,Edp,dpv,Nat.beq_eq,ZV.val,List.any_cons,List.any_nil,Bool.false_and,gb1]
 rw [← hcl]
 refine specTCheck hc (fun hcf => ?_) fun i hcf => ?_
 rotate_left
 ·simp (disch := first | assumption | simp) only [↓sbD,sbU,tyB,Nat.reduceMul,Nat.reduceSub,Int.reduceEq,Int.reduceLT,Int.reduceLE,Int.reduceNe,Nat.reduceBneDiff,Nat.reduceBEq,decide_false,gt_iff_lt,Bool.or_self,Bool.false_eq_true,Nat.mul_one,Nat.one_mul,Nat.zero_mul,↓reduceIte,Nat.reduceEqDiff,Nat.reduceLT,Nat.reduceAdd,Nat.reduceLeDiff,reduceCtorEq,goInt,pairs,isConst,TI.isAgg,splice,boxS,Edp,dpv,Nat.beq_eq,ZV.val,List.any_cons,List.any_nil,Bool.false_and]
  exact downS_le (Kept.le k1) (hbad (fun h => by rw [h.1] at hcf; cases hcf) _ _)
 have hI := cfg_I hc hcf
 by_cases hbig : (16384 : Int) < (l.length : Int)
 ·simp (disch := first | assumption | simp) only [↓sbD,sbU,tyB,Nat.reduceMul,Nat.reduceSub,Int.reduceEq,Int.reduceLT,Int.reduceLE,Int.reduceNe,Nat.reduceBneDiff,Nat.reduceBEq,decide_false,gt_iff_lt,Bool.or_self,Bool.false_eq_true,Nat.mul_one,Nat.one_mul,Nat.zero_mul,↓reduceIte,Nat.reduceEqDiff,Nat.reduceLT,Nat.reduceAdd,Nat.reduceLeDiff,reduceCtorEq,goInt,pairs,isConst,TI.isAgg,splice,boxS,Edp,dpv,Nat.beq_eq,ZV.val,List.any_cons,List.any_nil,Bool.false_and,hlen,hbig,gk4]
  refine specNew (n := 4) ⟨by omega,by omega⟩ ?_
  simp (disch := first | assumption | simp) only [↓sbD,sbU,tyB,Nat.reduceMul,Nat.reduceSub,Int.reduceEq,Int.reduceLT,Int.reduceLE,Int.reduceNe,Nat.reduceBneDiff,Nat.reduceBEq,decide_false,gt_iff_lt,Bool.or_self,Bool.false_eq_true,Nat.mul_one,Nat.one_mul,Nat.zero_mul,↓reduceIte,Nat.reduceEqDiff,Nat.reduceLT,Nat.reduceAdd,Nat.reduceLeDiff,reduceCtorEq,goInt,pairs,isConst,TI.isAgg,splice,boxS,Edp,dpv,Nat.beq_eq,ZV.val,List.any_cons,List.any_nil,Bool.false_and]
  exact downS_le (Kept.le k1) (hbad (fun h => by have := h.2.1; omega) _ _)
 simp (disch := first | assumption | simp) only [↓sbD,sbU,tyB,Nat.reduceMul,Nat.reduceSub,Int.reduceEq,Int.reduceLT,Int.reduceLE,Int.reduceNe,Nat.reduceBneDiff,Nat.reduceBEq,decide_false,gt_iff_lt,Bool.or_self,Bool.false_eq_true,Nat.mul_one,Nat.one_mul,Nat.zero_mul,↓reduceIte,Nat.reduceEqDiff,Nat.reduceLT,Nat.reduceAdd,Nat.reduceLeDiff,reduceCtorEq,goInt,pairs,isConst,TI.isAgg,splice,boxS,Edp,dpv,Nat.beq_eq,ZV.val,List.any_cons,List.any_nil,Bool.false_and,hlen,hbig,AS_new,dpW,zeW]
 intro w hw
 generalize hσ2 : AHeap.set σ1 w _ = σ2
 have k2 : Kept σ1 [] σ2 [w] := by rw [← hσ2]; exact Kept.new' hw
 have gw2 : σ2.get w = .cells [.slice none 0 0,.nilIface] true 0 := by rw [← hσ2]; exact AHeap.get_set_same _ _ _
 have hwb : w ≠ b := by rintro rfl; rw [gb1] at hw; cases hw
 have i2 : IsW σ2 w emp .nilIface [w] := ⟨_,[],gw2,.inl ⟨rfl,rfl,rfl⟩,rfl,by simp⟩
 have gb2 := k2.at gb1 (by simp) (by simp)
 clear hσ2 gw2
 try simp (disch := first | assumption | simp) only [↓sbD,sbU,tyB,Nat.reduceMul,Nat.reduceSub,Int.reduceEq,Int.reduceLT,Int.reduceLE,Int.reduceNe,Nat.reduceBneDiff,Nat.reduceBEq,decide_false,gt_iff_lt,Bool.or_self,Bool.false_eq_true,Nat.mul_one,Nat.one_mul,Nat.zero_mul,↓reduceIte,Nat.reduceEqDiff,Nat.reduceLT,Nat.reduceAdd,Nat.reduceLeDiff,reduceCtorEq,goInt,pairs,isConst,TI.isAgg,splice,boxS,Edp,dpv,Nat.beq_eq,ZV.val,List.any_cons,List.any_nil,Bool.false_and]
 refine specRaw (s := nameB) i2 (by decide) fun σ3 fp3 k3 i3 => ?_
 rw [emp_appS] at i3
 have gb3 := k3.at gb2.1 (by simp) gb2.2
 have k13 := (k1.trans k2).trans k3
 simp (disch := first | assumption | simp) only [↓sbD,sbU,tyB,Nat.reduceMul,Nat.reduceSub,Int.reduceEq,Int.reduceLT,Int.reduceLE,Int.reduceNe,Nat.reduceBneDiff,Nat.reduceBEq,decide_false,gt_iff_lt,Bool.or_self,Bool.false_eq_true,Nat.mul_one,Nat.one_mul,Nat.zero_mul,↓reduceIte,Nat.reduceEqDiff,Nat.reduceLT,Nat.reduceAdd,Nat.reduceLeDiff,reduceCtorEq,goInt,pairs,isConst,TI.isAgg,splice,boxS,Edp,dpv,Nat.beq_eq,ZV.val,List.any_cons,List.any_nil,Bool.false_and,gb3.1]
 rw [← hcl]
 refine specSBounds hc fun v2 hv2 => ?_
 have hlen2 := DLi.len hv2
 simp (disch := first | assumption | simp) only [↓sbD,sbU,tyB,Nat.reduceMul,Nat.reduceSub,Int.reduceEq,Int.reduceLT,Int.reduceLE,Int.reduceNe,Nat.reduceBneDiff,Nat.reduceBEq,decide_false,gt_iff_lt,Bool.or_self,Bool.false_eq_true,Nat.mul_one,Nat.one_mul,Nat.zero_mul,↓reduceIte,Nat.reduceEqDiff,Nat.reduceLT,Nat.reduceAdd,Nat.reduceLeDiff,reduceCtorEq,goInt,pairs,isConst,TI.isAgg,splice,boxS,Edp,dpv,Nat.beq_eq,ZV.val,List.any_cons,List.any_nil,Bool.false_and,hlen2]
 refine S_loop (fun m f τ => ∃ (i : Nat) (fp : List Nat),m + i = 13 ∧ f 29 = .int .i64 i ∧ Kept σ [] τ fp ∧ IsW τ w (nameB ++ n4 (c.take i)) .nilIface fp) 13 (Le.refl _) ⟨0,fp3,rfl,by simp (disch := first | assumption | simp) only [↓sbD,sbU,tyB,Nat.reduceMul,Nat.reduceSub,Int.reduceEq,Int.reduceLT,Int.reduceLE,Int.reduceNe,Nat.reduceBneDiff,Nat.reduceBEq,decide_false,gt_iff_lt,Bool.or_self,Bool.false_eq_true,Nat.mul_one,Nat.one_mul,Nat.zero_mul,↓reduceIte,Nat.reduceEqDiff,Nat.reduceLT,Nat.reduceAdd,Nat.reduceLeDiff,reduceCtorEq,goInt,pairs,isConst,TI.isAgg,splice,boxS,Edp,dpv,Nat.beq_eq,ZV.val,List.any_cons,List.any_nil,Bool.false_and]; rfl,k13,by show IsW σ3 w (nameB ++ emp) .nilIface fp3; rw [app_emp']; exact i3⟩ ?_
 rintro m f τ ⟨i,fp,hm,f29,kt,it⟩ hf
 have f1 := hf 1 (by decide) (notMem_wr (by kernel_rfl))
 have f7 := hf 7 (by decide) (notMem_wr (by kernel_rfl))
 have f27 := hf 27 (by decide) (notMem_wr (by kernel_rfl))
 have f28 := hf 28 (by decide) (notMem_wr (by kernel_rfl))
 simp (disch := first | assumption | simp) only [↓sbD,sbU,tyB,Nat.reduceMul,Nat.reduceSub,Int.reduceEq,Int.reduceLT,Int.reduceLE,Int.reduceNe,Nat.reduceBneDiff,Nat.reduceBEq,decide_false,gt_iff_lt,Bool.or_self,Bool.false_eq_true,Nat.mul_one,Nat.one_mul,Nat.zero_mul,↓reduceIte,Nat.reduceEqDiff,Nat.reduceLT,Nat.reduceAdd,Nat.reduceLeDiff,reduceCtorEq,goInt,pairs,isConst,TI.isAgg,splice,boxS,Edp,dpv,Nat.beq_eq,ZV.val,List.any_cons,List.any_nil,Bool.false_and] at f1 f7 f27 f28
 clear hf
 by_cases hi : (i : Int) < (c.length : Int)
 ·have hi' : i < c.length := by omega
  have a1 := DLi.at hv2 hi'
  have hx := hI _ (List.getElem_mem hi')
  have htk : c.take (i + 1) = c.take i ++ [c[i]] := by rw [List.take_append_getElem]
  have hw' := wrap_suc (n := i) (by omega)
  generalize c[i] = x at a1 hx htk
  have hac : intC x = [.int .i64 x] := rfl
  have hsz : (nameB ++ n4 (c.take i)).size ≤ 10000000 := by rw [ByteArray.size_append,n4_size,List.length_take]; have : nameB.size = 5 := rfl; omega
  simp (disch := first | assumption | simp) only [↓sbD,sbU,tyB,Nat.reduceMul,Nat.reduceSub,Int.reduceEq,Int.reduceLT,Int.reduceLE,Int.reduceNe,Nat.reduceBneDiff,Nat.reduceBEq,decide_false,gt_iff_lt,Bool.or_self,Bool.false_eq_true,Nat.mul_one,Nat.one_mul,Nat.zero_mul,↓reduceIte,Nat.reduceEqDiff,Nat.reduceLT,Nat.reduceAdd,Nat.reduceLeDiff,reduceCtorEq,goInt,pairs,isConst,TI.isAgg,splice,boxS,Edp,dpv,Nat.beq_eq,ZV.val,List.any_cons,List.any_nil,Bool.false_and,f1,f7,f27,f28,f29,hi,a1,hac]
  refine specU32 it hsz fun τ2 fp2 k4 ho => ?_
  have hnw : numW x 4 = .inl (numB x.toNat 4) := by unfold numW; rw [if_neg (by have := hx.1; have := hx.2; simp; omega)]
  rw [hnw] at ho
  have ho : IsW τ2 w (nameB ++ n4 (c.take i) ++ numB x.toNat 4) .nilIface fp2 := ho
  simp (disch := first | assumption | simp) only [↓sbD,sbU,tyB,Nat.reduceMul,Nat.reduceSub,Int.reduceEq,Int.reduceLT,Int.reduceLE,Int.reduceNe,Nat.reduceBneDiff,Nat.reduceBEq,decide_false,gt_iff_lt,Bool.or_self,Bool.false_eq_true,Nat.mul_one,Nat.one_mul,Nat.zero_mul,↓reduceIte,Nat.reduceEqDiff,Nat.reduceLT,Nat.reduceAdd,Nat.reduceLeDiff,reduceCtorEq,goInt,pairs,isConst,TI.isAgg,splice,boxS,Edp,dpv,Nat.beq_eq,ZV.val,List.any_cons,List.any_nil,Bool.false_and,f1,f7,f27,f28,f29,hw']
  exact ⟨_,m - 1,_,rfl,by omega,Le.refl _,i + 1,fp2,by omega,by simp (disch := first | assumption | simp) only [↓sbD,sbU,tyB,Nat.reduceMul,Nat.reduceSub,Int.reduceEq,Int.reduceLT,Int.reduceLE,Int.reduceNe,Nat.reduceBneDiff,Nat.reduceBEq,decide_false,gt_iff_lt,Bool.or_self,Bool.false_eq_true,Nat.mul_one,Nat.one_mul,Nat.zero_mul,↓reduceIte,Nat.reduceEqDiff,Nat.reduceLT,Nat.reduceAdd,Nat.reduceLeDiff,reduceCtorEq,goInt,pairs,isConst,TI.isAgg,splice,boxS,Edp,dpv,Nat.beq_eq,ZV.val,List.any_cons,List.any_nil,Bool.false_and],kt.trans k4,by rw [htk,n4_app,← app_assoc]; exact ho⟩
 have hi13 : i = 13 := by omega
 subst hi13
 have htk : c.take 13 = c := by rw [← hc]; exact List.take_length
 rw [htk] at it
 have hsz : (nameB ++ n4 c).size = 57 := by rw [ByteArray.size_append,n4_size,hc]; rfl
 simp (disch := first | assumption | simp) only [↓sbD,sbU,tyB,Nat.reduceMul,Nat.reduceSub,Int.reduceEq,Int.reduceLT,Int.reduceLE,Int.reduceNe,Nat.reduceBneDiff,Nat.reduceBEq,decide_false,gt_iff_lt,Bool.or_self,Bool.false_eq_true,Nat.mul_one,Nat.one_mul,Nat.zero_mul,↓reduceIte,Nat.reduceEqDiff,Nat.reduceLT,Nat.reduceAdd,Nat.reduceLeDiff,reduceCtorEq,goInt,pairs,isConst,TI.isAgg,splice,boxS,Edp,dpv,Nat.beq_eq,ZV.val,List.any_cons,List.any_nil,Bool.false_and,f1,f7,f27,f28,f29,hi,hlen]
 refine specU16 it (by omega) fun σ4 fp4 k4 ho => ?_
 have hnw : numW (l.length : Int) 2 = .inl (numB l.length 2) := by unfold numW; rw [if_neg (by simp; omega)]; rfl
 rw [hnw] at ho
 have i4 : WX σ4 w (some (nameB ++ n4 c ++ numB l.length 2)) fp4 := ho
 have hX : (nameB ++ n4 c ++ numB l.length 2).size = 59 := by rw [ByteArray.size_append,hsz,numB_k (by simp)]
 have hPB : putB c l = nameB ++ n4 c ++ numB l.length 2 ++ evsB l := rfl
 generalize nameB ++ n4 c ++ numB l.length 2 = X at i4 hX hPB
 simp (disch := first | assumption | simp) only [↓sbD,sbU,tyB,Nat.reduceMul,Nat.reduceSub,Int.reduceEq,Int.reduceLT,Int.reduceLE,Int.reduceNe,Nat.reduceBneDiff,Nat.reduceBEq,decide_false,gt_iff_lt,Bool.or_self,Bool.false_eq_true,Nat.mul_one,Nat.one_mul,Nat.zero_mul,↓reduceIte,Nat.reduceEqDiff,Nat.reduceLT,Nat.reduceAdd,Nat.reduceLeDiff,reduceCtorEq,goInt,pairs,isConst,TI.isAgg,splice,boxS,Edp,dpv,Nat.beq_eq,ZV.val,List.any_cons,List.any_nil,Bool.false_and,f1,f7,hlen]
 have k04 := kt.trans k4
 have g1 := f1
 have g7 := f7
 clear f1 f7 f29 f27 f28
 refine S_loop (fun m f τ => ∃ (i : Nat) (fp : List Nat) (o : Option ByteArray),m + i = l.length ∧ f 43 = .int .i64 i ∧ Kept σ [] τ fp ∧ WX τ w o fp ∧ (((∀ e ∈ l.take i,okE e) ∧ o = some (X ++ evsB (l.take i))) ∨ (o = none ∧ ∃ e ∈ l,¬ okE e))) l.length (Le.refl _) ⟨0,fp4,_,rfl,by simp (disch := first | assumption | simp) only [↓sbD,sbU,tyB,Nat.reduceMul,Nat.reduceSub,Int.reduceEq,Int.reduceLT,Int.reduceLE,Int.reduceNe,Nat.reduceBneDiff,Nat.reduceBEq,decide_false,gt_iff_lt,Bool.or_self,Bool.false_eq_true,Nat.mul_one,Nat.one_mul,Nat.zero_mul,↓reduceIte,Nat.reduceEqDiff,Nat.reduceLT,Nat.reduceAdd,Nat.reduceLeDiff,reduceCtorEq,goInt,pairs,isConst,TI.isAgg,splice,boxS,Edp,dpv,Nat.beq_eq,ZV.val,List.any_cons,List.any_nil,Bool.false_and]; rfl,k04,i4,.inl ⟨fun e he => by simp at he,by show some X = some (X ++ emp); rw [app_emp']⟩⟩ ?_
 rintro m f τ ⟨i,fp,o,hm,f43,kt,it,hst⟩ hf
 have f1 := hf 1 (by decide) (notMem_wr (by kernel_rfl))
 have f7 := hf 7 (by decide) (notMem_wr (by kernel_rfl))
 have f41 := hf 41 (by decide) (notMem_wr (by kernel_rfl))
 have f42 := hf 42 (by decide) (notMem_wr (by kernel_rfl))
 simp (disch := first | assumption | simp) only [↓sbD,sbU,tyB,Nat.reduceMul,Nat.reduceSub,Int.reduceEq,Int.reduceLT,Int.reduceLE,Int.reduceNe,Nat.reduceBneDiff,Nat.reduceBEq,decide_false,gt_iff_lt,Bool.or_self,Bool.false_eq_true,Nat.mul_one,Nat.one_mul,Nat.zero_mul,↓reduceIte,Nat.reduceEqDiff,Nat.reduceLT,Nat.reduceAdd,Nat.reduceLeDiff,reduceCtorEq,goInt,pairs,isConst,TI.isAgg,splice,boxS,Edp,dpv,Nat.beq_eq,ZV.val,List.any_cons,List.any_nil,Bool.false_and,g1,g7] at f1 f7 f41 f42
 clear hf
 by_cases hi : (i : Int) < (l.length : Int)
 ·have hi' : i < l.length := by omega
  have a1 := DLe.at hv hi'
  have hem := List.getElem_mem hi'
  have htk : l.take (i + 1) = l.take i ++ [l[i]] := by rw [List.take_append_getElem]
  have hw' := wrap_suc (n := i) (by omega)
  have htm := tot_mem hem
  generalize l[i] = e at a1 hem htk htm
  have hac : evC e = [.int .i64 e.k,.int .i64 e.c,.string e.b,.int .i64 e.n] := rfl
  simp (disch := first | assumption | simp) only [↓sbD,sbU,tyB,Nat.reduceMul,Nat.reduceSub,Int.reduceEq,Int.reduceLT,Int.reduceLE,Int.reduceNe,Nat.reduceBneDiff,Nat.reduceBEq,decide_false,gt_iff_lt,Bool.or_self,Bool.false_eq_true,Nat.mul_one,Nat.one_mul,Nat.zero_mul,↓reduceIte,Nat.reduceEqDiff,Nat.reduceLT,Nat.reduceAdd,Nat.reduceLeDiff,reduceCtorEq,goInt,pairs,isConst,TI.isAgg,splice,boxS,Edp,dpv,Nat.beq_eq,ZV.val,List.any_cons,List.any_nil,Bool.false_and,f1,f7,f41,f42,f43,hi,a1,hac,AS_new,dpEv,zeEv]
  intro d hd
  try simp (disch := first | assumption | simp) only [↓sbD,sbU,tyB,Nat.reduceMul,Nat.reduceSub,Int.reduceEq,Int.reduceLT,Int.reduceLE,Int.reduceNe,Nat.reduceBneDiff,Nat.reduceBEq,decide_false,gt_iff_lt,Bool.or_self,Bool.false_eq_true,Nat.mul_one,Nat.one_mul,Nat.zero_mul,↓reduceIte,Nat.reduceEqDiff,Nat.reduceLT,Nat.reduceAdd,Nat.reduceLeDiff,reduceCtorEq,goInt,pairs,isConst,TI.isAgg,splice,boxS,Edp,dpv,Nat.beq_eq,ZV.val,List.any_cons,List.any_nil,Bool.false_and,AHeap.get_set_same]
  generalize hτ1 : AHeap.set (AHeap.set τ d _) d _ = τ1
  have k5 : Kept τ [] τ1 [] := by rw [← hτ1]; exact ((Kept.refl τ []).setD hd).setD hd
  have gd1 : τ1.get d = .cells [.int .i64 e.k,.int .i64 e.c,.string e.b,.int .i64 e.n] true 0 := by rw [← hτ1]; exact AHeap.get_set_same _ _ _
  have it1 : WX τ1 w o fp := it.kept k5 (fun b _ => by simp)
  have hdf : d ∉ fp := fun hm => it.live hm hd
  have kt1 : Kept σ [] τ1 fp := by rw [← hτ1]; exact kt.trans (((Kept.refl τ fp).setD hd).setD hd)
  clear hτ1 it kt k5
  try simp (disch := first | assumption | simp) only [↓sbD,sbU,tyB,Nat.reduceMul,Nat.reduceSub,Int.reduceEq,Int.reduceLT,Int.reduceLE,Int.reduceNe,Nat.reduceBneDiff,Nat.reduceBEq,decide_false,gt_iff_lt,Bool.or_self,Bool.false_eq_true,Nat.mul_one,Nat.one_mul,Nat.zero_mul,↓reduceIte,Nat.reduceEqDiff,Nat.reduceLT,Nat.reduceAdd,Nat.reduceLeDiff,reduceCtorEq,goInt,pairs,isConst,TI.isAgg,splice,boxS,Edp,dpv,Nat.beq_eq,ZV.val,List.any_cons,List.any_nil,Bool.false_and,gd1]
  refine specSMay ?_
  by_cases hk : 1 ≤ e.k ∧ e.k ≤ 7
  rotate_left
  ·simp (disch := first | assumption | simp) only [↓sbD,sbU,tyB,Nat.reduceMul,Nat.reduceSub,Int.reduceEq,Int.reduceLT,Int.reduceLE,Int.reduceNe,Nat.reduceBneDiff,Nat.reduceBEq,decide_false,gt_iff_lt,Bool.or_self,Bool.false_eq_true,Nat.mul_one,Nat.one_mul,Nat.zero_mul,↓reduceIte,Nat.reduceEqDiff,Nat.reduceLT,Nat.reduceAdd,Nat.reduceLeDiff,reduceCtorEq,goInt,pairs,isConst,TI.isAgg,splice,boxS,Edp,dpv,Nat.beq_eq,ZV.val,List.any_cons,List.any_nil,Bool.false_and,hk,f43,not_bool,Bool.not_false,gk7]
   refine specNew (n := 7) ⟨by omega,by omega⟩ ?_
   simp (disch := first | assumption | simp) only [↓sbD,sbU,tyB,Nat.reduceMul,Nat.reduceSub,Int.reduceEq,Int.reduceLT,Int.reduceLE,Int.reduceNe,Nat.reduceBneDiff,Nat.reduceBEq,decide_false,gt_iff_lt,Bool.or_self,Bool.false_eq_true,Nat.mul_one,Nat.one_mul,Nat.zero_mul,↓reduceIte,Nat.reduceEqDiff,Nat.reduceLT,Nat.reduceAdd,Nat.reduceLeDiff,reduceCtorEq,goInt,pairs,isConst,TI.isAgg,splice,boxS,Edp,dpv,Nat.beq_eq,ZV.val,List.any_cons,List.any_nil,Bool.false_and]
   exact downS_le (Kept.le kt1.none) (hbad (fun h => hk (h.2.2 e hem).1) _ _)
  have hsz : ∀ a,o = some a → a.size ≤ 1000000 := by
   intro a ha
   rcases hst with ⟨_,h⟩ | ⟨h,_⟩
   ·rw [h] at ha; injection ha with ha; subst ha
    rw [ByteArray.size_append,hX,evsB_size]
    have := tot_take l i; omega
   ·rw [h] at ha; cases ha
  have z1 := wr_sz hsz (r := numW e.k 1) (M := 4) fun m h => numW_size h
  have z2 := wr_sz z1 (r := numW e.c 1) (M := 4) fun m h => numW_size h
  have z3 := wr_sz z2 (r := numW e.n 4) (M := 4) fun m h => numW_size h
  have big : ∀ {o' : Option ByteArray} {N : Nat},N ≤ 10000000 → (∀ a,o' = some a → a.size ≤ N) → ∀ a,o' = some a → a.size ≤ 10000000 := fun hN h a ha => Nat.le_trans (h a ha) hN
  simp (disch := first | assumption | simp) only [↓sbD,sbU,tyB,Nat.reduceMul,Nat.reduceSub,Int.reduceEq,Int.reduceLT,Int.reduceLE,Int.reduceNe,Nat.reduceBneDiff,Nat.reduceBEq,decide_false,gt_iff_lt,Bool.or_self,Bool.false_eq_true,Nat.mul_one,Nat.one_mul,Nat.zero_mul,↓reduceIte,Nat.reduceEqDiff,Nat.reduceLT,Nat.reduceAdd,Nat.reduceLeDiff,reduceCtorEq,goInt,pairs,isConst,TI.isAgg,splice,boxS,Edp,dpv,Nat.beq_eq,ZV.val,List.any_cons,List.any_nil,Bool.false_and,hk,not_bool,Bool.not_true,f7,gd1]
  refine specU8G it1 (big (by omega) hsz) fun τ2 fp2 k2' it2 => ?_
  have gd2 := k2'.at gd1 (by simp) hdf
  simp (disch := first | assumption | simp) only [↓sbD,sbU,tyB,Nat.reduceMul,Nat.reduceSub,Int.reduceEq,Int.reduceLT,Int.reduceLE,Int.reduceNe,Nat.reduceBneDiff,Nat.reduceBEq,decide_false,gt_iff_lt,Bool.or_self,Bool.false_eq_true,Nat.mul_one,Nat.one_mul,Nat.zero_mul,↓reduceIte,Nat.reduceEqDiff,Nat.reduceLT,Nat.reduceAdd,Nat.reduceLeDiff,reduceCtorEq,goInt,pairs,isConst,TI.isAgg,splice,boxS,Edp,dpv,Nat.beq_eq,ZV.val,List.any_cons,List.any_nil,Bool.false_and,f7,gd2.1]
  refine specU8G it2 (big (by omega) z1) fun τ3 fp3' k3' it3 => ?_
  have gd3 := k3'.at gd2.1 (by simp) gd2.2
  simp (disch := first | assumption | simp) only [↓sbD,sbU,tyB,Nat.reduceMul,Nat.reduceSub,Int.reduceEq,Int.reduceLT,Int.reduceLE,Int.reduceNe,Nat.reduceBneDiff,Nat.reduceBEq,decide_false,gt_iff_lt,Bool.or_self,Bool.false_eq_true,Nat.mul_one,Nat.one_mul,Nat.zero_mul,↓reduceIte,Nat.reduceEqDiff,Nat.reduceLT,Nat.reduceAdd,Nat.reduceLeDiff,reduceCtorEq,goInt,pairs,isConst,TI.isAgg,splice,boxS,Edp,dpv,Nat.beq_eq,ZV.val,List.any_cons,List.any_nil,Bool.false_and,f7,gd3.1]
  refine specU32G it3 (big (by omega) z2) fun τ4 fp4' k4' it4 => ?_
  have gd4 := k4'.at gd3.1 (by simp) gd3.2
  simp (disch := first | assumption | simp) only [↓sbD,sbU,tyB,Nat.reduceMul,Nat.reduceSub,Int.reduceEq,Int.reduceLT,Int.reduceLE,Int.reduceNe,Nat.reduceBneDiff,Nat.reduceBEq,decide_false,gt_iff_lt,Bool.or_self,Bool.false_eq_true,Nat.mul_one,Nat.one_mul,Nat.zero_mul,↓reduceIte,Nat.reduceEqDiff,Nat.reduceLT,Nat.reduceAdd,Nat.reduceLeDiff,reduceCtorEq,goInt,pairs,isConst,TI.isAgg,splice,boxS,Edp,dpv,Nat.beq_eq,ZV.val,List.any_cons,List.any_nil,Bool.false_and,f7,gd4.1]
  refine specBinG it4 (big (by omega) z3) (by omega) fun τ5 fp5' k5' it5 => ?_
  simp (disch := first | assumption | simp) only [↓sbD,sbU,tyB,Nat.reduceMul,Nat.reduceSub,Int.reduceEq,Int.reduceLT,Int.reduceLE,Int.reduceNe,Nat.reduceBneDiff,Nat.reduceBEq,decide_false,gt_iff_lt,Bool.or_self,Bool.false_eq_true,Nat.mul_one,Nat.one_mul,Nat.zero_mul,↓reduceIte,Nat.reduceEqDiff,Nat.reduceLT,Nat.reduceAdd,Nat.reduceLeDiff,reduceCtorEq,goInt,pairs,isConst,TI.isAgg,splice,boxS,Edp,dpv,Nat.beq_eq,ZV.val,List.any_cons,List.any_nil,Bool.false_and,f43,hw']
  have kz := (((kt1.trans k2').trans k3').trans k4').trans k5'
  refine ⟨_,m - 1,_,rfl,by omega,Le.refl _,i + 1,fp5',evW o e,by omega,by simp (disch := first | assumption | simp) only [↓sbD,sbU,tyB,Nat.reduceMul,Nat.reduceSub,Int.reduceEq,Int.reduceLT,Int.reduceLE,Int.reduceNe,Nat.reduceBneDiff,Nat.reduceBEq,decide_false,gt_iff_lt,Bool.or_self,Bool.false_eq_true,Nat.mul_one,Nat.one_mul,Nat.zero_mul,↓reduceIte,Nat.reduceEqDiff,Nat.reduceLT,Nat.reduceAdd,Nat.reduceLeDiff,reduceCtorEq,goInt,pairs,isConst,TI.isAgg,splice,boxS,Edp,dpv,Nat.beq_eq,ZV.val,List.any_cons,List.any_nil,Bool.false_and],kz,it5,?_⟩
  rcases hst with ⟨h1,h2⟩ | ⟨h1,h2⟩
  ·by_cases he : okE e
   ·refine .inl ⟨fun y hy => ?_,?_⟩
    ·rw [htk] at hy
     rcases List.mem_append.1 hy with hy | hy
     ·exact h1 y hy
     ·rw [List.mem_singleton.1 hy]; exact he
    ·rw [h2,evW_ok he,htk,evsB_app,app_assoc]
   ·exact .inr ⟨by rw [h2]; exact evW_bad hk he,e,hem,he⟩
  ·exact .inr ⟨by rw [h1]; rfl,h2⟩
 ·have hil : i = l.length := by omega
  have htk : l.take i = l := by rw [hil]; exact List.take_length
  rw [htk] at hst
  simp (disch := first | assumption | simp) only [↓sbD,sbU,tyB,Nat.reduceMul,Nat.reduceSub,Int.reduceEq,Int.reduceLT,Int.reduceLE,Int.reduceNe,Nat.reduceBneDiff,Nat.reduceBEq,decide_false,gt_iff_lt,Bool.or_self,Bool.false_eq_true,Nat.mul_one,Nat.one_mul,Nat.zero_mul,↓reduceIte,Nat.reduceEqDiff,Nat.reduceLT,Nat.reduceAdd,Nat.reduceLeDiff,reduceCtorEq,goInt,pairs,isConst,TI.isAgg,splice,boxS,Edp,dpv,Nat.beq_eq,ZV.val,List.any_cons,List.any_nil,Bool.false_and,f1,f7,f41,f42,f43,hi]
  rcases hst with ⟨h1,rfl⟩ | ⟨rfl,e,he,hne⟩
  ·refine specBytes it ?_
   simp (disch := first | assumption | simp) only [↓sbD,sbU,tyB,Nat.reduceMul,Nat.reduceSub,Int.reduceEq,Int.reduceLT,Int.reduceLE,Int.reduceNe,Nat.reduceBneDiff,Nat.reduceBEq,decide_false,gt_iff_lt,Bool.or_self,Bool.false_eq_true,Nat.mul_one,Nat.one_mul,Nat.zero_mul,↓reduceIte,Nat.reduceEqDiff,Nat.reduceLT,Nat.reduceAdd,Nat.reduceLeDiff,reduceCtorEq,goInt,pairs,isConst,TI.isAgg,splice,boxS,Edp,dpv,Nat.beq_eq,ZV.val,List.any_cons,List.any_nil,Bool.false_and]
   have := hok ⟨hcf,by omega,h1⟩
   rw [hPB] at this
   exact downS_le (Kept.le kt.none) this
  ·obtain ⟨u,x,a,it⟩ := it
   refine specBytesE it ?_
   simp (disch := first | assumption | simp) only [↓sbD,sbU,tyB,Nat.reduceMul,Nat.reduceSub,Int.reduceEq,Int.reduceLT,Int.reduceLE,Int.reduceNe,Nat.reduceBneDiff,Nat.reduceBEq,decide_false,gt_iff_lt,Bool.or_self,Bool.false_eq_true,Nat.mul_one,Nat.one_mul,Nat.zero_mul,↓reduceIte,Nat.reduceEqDiff,Nat.reduceLT,Nat.reduceAdd,Nat.reduceLeDiff,reduceCtorEq,goInt,pairs,isConst,TI.isAgg,splice,boxS,Edp,dpv,Nat.beq_eq,ZV.val,List.any_cons,List.any_nil,Bool.false_and]
   exact downS_le (Kept.le kt.none) (hbad (fun h => hne (h.2.2 e he)) _ _)
end
theorem typed_cfg {H : AHeap} {d : Nat} {v : Value} (h : ArgTyped E H d 23 v) : ∃ l : List Int,l.length = 13 ∧ v = .agg ⟨cfgC l⟩ := by
 obtain ⟨xs,h1,rfl⟩ := h.agg ty23 rfl
 cases d with
 | zero => exact h1.elim
 | succ d =>
  simp only [Typed,ty23] at h1
  obtain ⟨hl,hp⟩ := h1
  match xs,hl with
  | [y0,y1,y2,y3,y4,y5,y6,y7,y8,y9,y10,y11,y12],_ =>
   obtain ⟨j,j1,j2⟩ := hp (0,3,false) (by simp)
   rw [ty3] at j1; injection j1 with j1; subst j1
   obtain ⟨n0,e0,_⟩ := typed_int (by simpa using j2)
   obtain ⟨j,j1,j2⟩ := hp (1,3,false) (by simp)
   rw [ty3] at j1; injection j1 with j1; subst j1
   obtain ⟨n1,e1,_⟩ := typed_int (by simpa using j2)
   obtain ⟨j,j1,j2⟩ := hp (2,3,false) (by simp)
   rw [ty3] at j1; injection j1 with j1; subst j1
   obtain ⟨n2,e2,_⟩ := typed_int (by simpa using j2)
   obtain ⟨j,j1,j2⟩ := hp (3,3,false) (by simp)
   rw [ty3] at j1; injection j1 with j1; subst j1
   obtain ⟨n3,e3,_⟩ := typed_int (by simpa using j2)
   obtain ⟨j,j1,j2⟩ := hp (4,3,false) (by simp)
   rw [ty3] at j1; injection j1 with j1; subst j1
   obtain ⟨n4,e4,_⟩ := typed_int (by simpa using j2)
   obtain ⟨j,j1,j2⟩ := hp (5,3,false) (by simp)
   rw [ty3] at j1; injection j1 with j1; subst j1
   obtain ⟨n5,e5,_⟩ := typed_int (by simpa using j2)
   obtain ⟨j,j1,j2⟩ := hp (6,3,false) (by simp)
   rw [ty3] at j1; injection j1 with j1; subst j1
   obtain ⟨n6,e6,_⟩ := typed_int (by simpa using j2)
   obtain ⟨j,j1,j2⟩ := hp (7,3,false) (by simp)
   rw [ty3] at j1; injection j1 with j1; subst j1
   obtain ⟨n7,e7,_⟩ := typed_int (by simpa using j2)
   obtain ⟨j,j1,j2⟩ := hp (8,3,false) (by simp)
   rw [ty3] at j1; injection j1 with j1; subst j1
   obtain ⟨n8,e8,_⟩ := typed_int (by simpa using j2)
   obtain ⟨j,j1,j2⟩ := hp (9,3,false) (by simp)
   rw [ty3] at j1; injection j1 with j1; subst j1
   obtain ⟨n9,e9,_⟩ := typed_int (by simpa using j2)
   obtain ⟨j,j1,j2⟩ := hp (10,3,false) (by simp)
   rw [ty3] at j1; injection j1 with j1; subst j1
   obtain ⟨n10,e10,_⟩ := typed_int (by simpa using j2)
   obtain ⟨j,j1,j2⟩ := hp (11,3,false) (by simp)
   rw [ty3] at j1; injection j1 with j1; subst j1
   obtain ⟨n11,e11,_⟩ := typed_int (by simpa using j2)
   obtain ⟨j,j1,j2⟩ := hp (12,3,false) (by simp)
   rw [ty3] at j1; injection j1 with j1; subst j1
   obtain ⟨n12,e12,_⟩ := typed_int (by simpa using j2)
   simp only [List.cons.injEq,and_true] at e0 e1 e2 e3 e4 e5 e6 e7 e8 e9 e10 e11 e12
   exact ⟨[n0,n1,n2,n3,n4,n5,n6,n7,n8,n9,n10,n11,n12],rfl,by rw [e0,e1,e2,e3,e4,e5,e6,e7,e8,e9,e10,e11,e12]; rfl⟩
theorem typed_ev {H : AHeap} {d : Nat} {xs : List Value} (h : Typed E H d 36 xs) : ∃ a : Ev,xs = evC a := by
 cases d with
 | zero => exact h.elim
 | succ d =>
  simp only [Typed,ty36] at h
  obtain ⟨hl,hp⟩ := h
  match xs,hl with
  | [x,y,z,w],_ =>
   obtain ⟨j,j1,j2⟩ := hp (0,3,false) (by simp)
   rw [ty3] at j1; injection j1 with j1; subst j1
   obtain ⟨n1,e1,_⟩ := typed_int (by simpa using j2)
   obtain ⟨j,j1,j2⟩ := hp (1,3,false) (by simp)
   rw [ty3] at j1; injection j1 with j1; subst j1
   obtain ⟨n2,e2,_⟩ := typed_int (by simpa using j2)
   obtain ⟨j,j1,j2⟩ := hp (2,9,false) (by simp)
   rw [ty9] at j1; injection j1 with j1; subst j1
   obtain ⟨s,e3,_⟩ := typed_str (by simpa using j2)
   obtain ⟨j,j1,j2⟩ := hp (3,3,false) (by simp)
   rw [ty3] at j1; injection j1 with j1; subst j1
   obtain ⟨n4,e4,_⟩ := typed_int (by simpa using j2)
   simp only [List.cons.injEq,and_true] at e1 e2 e3 e4
   exact ⟨⟨n1,n2,s,n4⟩,by rw [e1,e2,e3,e4]; rfl⟩
theorem typed_evs {H : AHeap} {d : Nat} {v : Value} (h : ArgTyped E H d 24 v) : ∃ l : List Ev,DL evC 4 v l := by
 obtain ⟨xs,h1,rfl⟩ := h.one ty24 rfl
 cases d with
 | zero => exact h1.elim
 | succ d =>
  simp only [Typed,ty24] at h1
  rcases h1 with rfl | ⟨h2,_⟩ | ⟨_,n,j,cs,hj,rfl,hl,hk⟩
  ·exact ⟨[],.inl ⟨rfl,rfl⟩⟩
  ·cases h2
  ·rw [ty36] at hj; injection hj with hj; subst hj
   obtain ⟨l,h3,h4⟩ := chunks (enc := evC) (fun a => rfl) n cs hl fun k hk' => typed_ev (hk k hk')
   exact ⟨l,.inr ⟨0,by rw [h3,← h4]; rfl⟩⟩
theorem typed_s1 {H : AHeap} {d : Nat} {v : Value} (h : ArgTyped E H d 9 v) : ∃ s : ByteArray,v = .string s := by
 obtain ⟨xs,h1,rfl⟩ := h.one ty9 rfl
 obtain ⟨s,rfl,_⟩ := typed_str h1
 exact ⟨s,rfl⟩
section
variable {σ : AHeap} {Q : Value → AHeap → Prop}
theorem evNe {cs : Bool} {e : Ev} : abin E σ .neq 36 cs (.agg ⟨evC e⟩) (.agg ⟨evC e⟩) = some (.bool false) := by
 simp only [evC,abin,nonNum,eqAsk,aeq,aeqs,apart,ty36,ty3,ty9,TI.isAgg,Bool.and_self,if_true,Bool.false_eq_true,if_false,List.getElem?_cons_zero,List.getElem?_cons_succ,↓reduceIte,beq_self_eq_true,bytes_dec,decide_true,Option.map_some,Bool.not_true]
theorem specESame {v u : Value} {l : List Ev} (ha : DL evC 4 v l) (hb : DL evC 4 u l) (hl : l.length ≤ 100000) (h : Q (.bool true) σ) : CallS E B 8 [v,u] σ Q := by
 have la := DLe.len ha
 have lb := DLe.len hb
 refine call8 (by simp) ?_
 simp only [strip,bodyOf,Tryd.f8,getD_body,keepN,bareOp_mk,lessOp_mk,lapp_cons,lapp_nil,List.map_cons,List.map_nil,array_toList,↓reduceIte,Nat.reduceEqDiff,Bool.false_eq_true]
 simp (disch := first | assumption | simp) only [↓sbD,sbU,tyB,Nat.reduceMul,Nat.reduceSub,Int.reduceEq,Int.reduceLT,Int.reduceLE,Int.reduceNe,Nat.reduceBneDiff,Nat.reduceBEq,decide_false,gt_iff_lt,Bool.or_self,Bool.false_eq_true,Nat.mul_one,Nat.one_mul,Nat.zero_mul,↓reduceIte,Nat.reduceEqDiff,Nat.reduceLT,Nat.reduceAdd,Nat.reduceLeDiff,reduceCtorEq,goInt,pairs,isConst,TI.isAgg,splice,boxS,Edp,dpv,Nat.beq_eq,ZV.val,List.any_cons,List.any_nil,Bool.false_and,la,lb]
 refine S_loop (fun m f σ' => σ' = σ ∧ ∃ i : Nat,m + i = l.length ∧ f 5 = .int .i64 i) l.length (Le.refl _) ⟨rfl,0,rfl,by simp (disch := first | assumption | simp) only [↓sbD,sbU,tyB,Nat.reduceMul,Nat.reduceSub,Int.reduceEq,Int.reduceLT,Int.reduceLE,Int.reduceNe,Nat.reduceBneDiff,Nat.reduceBEq,decide_false,gt_iff_lt,Bool.or_self,Bool.false_eq_true,Nat.mul_one,Nat.one_mul,Nat.zero_mul,↓reduceIte,Nat.reduceEqDiff,Nat.reduceLT,Nat.reduceAdd,Nat.reduceLeDiff,reduceCtorEq,goInt,pairs,isConst,TI.isAgg,splice,boxS,Edp,dpv,Nat.beq_eq,ZV.val,List.any_cons,List.any_nil,Bool.false_and]; rfl⟩ ?_
 rintro m f σ' ⟨rfl,i,hm,f5⟩ hf
 have f0 := hf 0 (by decide) (notMem_wr (by kernel_rfl))
 have f1 := hf 1 (by decide) (notMem_wr (by kernel_rfl))
 simp (disch := first | assumption | simp) only [↓sbD,sbU,tyB,Nat.reduceMul,Nat.reduceSub,Int.reduceEq,Int.reduceLT,Int.reduceLE,Int.reduceNe,Nat.reduceBneDiff,Nat.reduceBEq,decide_false,gt_iff_lt,Bool.or_self,Bool.false_eq_true,Nat.mul_one,Nat.one_mul,Nat.zero_mul,↓reduceIte,Nat.reduceEqDiff,Nat.reduceLT,Nat.reduceAdd,Nat.reduceLeDiff,reduceCtorEq,goInt,pairs,isConst,TI.isAgg,splice,boxS,Edp,dpv,Nat.beq_eq,ZV.val,List.any_cons,List.any_nil,Bool.false_and] at f0 f1
 clear hf
 by_cases hi : (i : Int) < (l.length : Int)
 ·have hi' : i < l.length := by omega
  have a1 := DLe.at ha hi'
  have b1 := DLe.at hb hi'
  have hw := wrap_suc (n := i) (by omega)
  generalize l[i] = y at a1 b1
  have hac : evC y = [.int .i64 y.k,.int .i64 y.c,.string y.b,.int .i64 y.n] := rfl
  have hn : ∀ τ : AHeap,∀ cs,abin E τ .neq 36 cs (.agg ⟨[.int .i64 y.k,.int .i64 y.c,.string y.b,.int .i64 y.n]⟩) (.agg ⟨[.int .i64 y.k,.int .i64 y.c,.string y.b,.int .i64 y.n]⟩) = some (.bool false) := fun τ cs => evNe (e := y)
  simp (disch := first | assumption | simp) only [↓sbD,sbU,tyB,Nat.reduceMul,Nat.reduceSub,Int.reduceEq,Int.reduceLT,Int.reduceLE,Int.reduceNe,Nat.reduceBneDiff,Nat.reduceBEq,decide_false,gt_iff_lt,Bool.or_self,Bool.false_eq_true,Nat.mul_one,Nat.one_mul,Nat.zero_mul,↓reduceIte,Nat.reduceEqDiff,Nat.reduceLT,Nat.reduceAdd,Nat.reduceLeDiff,reduceCtorEq,goInt,pairs,isConst,TI.isAgg,splice,boxS,Edp,dpv,Nat.beq_eq,ZV.val,List.any_cons,List.any_nil,Bool.false_and,f0,f1,f5,la,lb,hi,a1,b1,hac,hn,hw]
  exact ⟨_,m - 1,_,rfl,by omega,Le.refl _,rfl,i + 1,by omega,by simp (disch := first | assumption | simp) only [↓sbD,sbU,tyB,Nat.reduceMul,Nat.reduceSub,Int.reduceEq,Int.reduceLT,Int.reduceLE,Int.reduceNe,Nat.reduceBneDiff,Nat.reduceBEq,decide_false,gt_iff_lt,Bool.or_self,Bool.false_eq_true,Nat.mul_one,Nat.one_mul,Nat.zero_mul,↓reduceIte,Nat.reduceEqDiff,Nat.reduceLT,Nat.reduceAdd,Nat.reduceLeDiff,reduceCtorEq,goInt,pairs,isConst,TI.isAgg,splice,boxS,Edp,dpv,Nat.beq_eq,ZV.val,List.any_cons,List.any_nil,Bool.false_and]⟩
 ·simp (disch := first | assumption | simp) only [↓sbD,sbU,tyB,Nat.reduceMul,Nat.reduceSub,Int.reduceEq,Int.reduceLT,Int.reduceLE,Int.reduceNe,Nat.reduceBneDiff,Nat.reduceBEq,decide_false,gt_iff_lt,Bool.or_self,Bool.false_eq_true,Nat.mul_one,Nat.one_mul,Nat.zero_mul,↓reduceIte,Nat.reduceEqDiff,Nat.reduceLT,Nat.reduceAdd,Nat.reduceLeDiff,reduceCtorEq,goInt,pairs,isConst,TI.isAgg,splice,boxS,Edp,dpv,Nat.beq_eq,ZV.val,List.any_cons,List.any_nil,Bool.false_and,f0,f1,f5,la,lb,hi]
  exact downS_here h
theorem cfgEq {t : AHeap} {cs : Bool} {x0 x1 x2 x3 x4 x5 x6 x7 x8 x9 x10 x11 x12 : Int} : abin E t .eql 23 cs (.agg ⟨[.int .i64 x0,.int .i64 x1,.int .i64 x2,.int .i64 x3,.int .i64 x4,.int .i64 x5,.int .i64 x6,.int .i64 x7,.int .i64 x8,.int .i64 x9,.int .i64 x10,.int .i64 x11,.int .i64 x12]⟩) (.agg ⟨[.int .i64 x0,.int .i64 x1,.int .i64 x2,.int .i64 x3,.int .i64 x4,.int .i64 x5,.int .i64 x6,.int .i64 x7,.int .i64 x8,.int .i64 x9,.int .i64 x10,.int .i64 x11,.int .i64 x12]⟩) = some (.bool true) := by
 simp only [abin,nonNum,eqAsk,aeq,aeqs,apart,ty23,ty3,TI.isAgg,Bool.and_self,if_true,Bool.false_eq_true,if_false,List.getElem?_cons_zero,List.getElem?_cons_succ,↓reduceIte,beq_self_eq_true,Option.map_some]
theorem cfgNe {t : AHeap} {cs : Bool} {x0 x1 x2 x3 x4 x5 x6 x7 x8 x9 x10 x11 x12 : Int} : abin E t .neq 23 cs (.agg ⟨[.int .i64 x0,.int .i64 x1,.int .i64 x2,.int .i64 x3,.int .i64 x4,.int .i64 x5,.int .i64 x6,.int .i64 x7,.int .i64 x8,.int .i64 x9,.int .i64 x10,.int .i64 x11,.int .i64 x12]⟩) (.agg ⟨[.int .i64 x0,.int .i64 x1,.int .i64 x2,.int .i64 x3,.int .i64 x4,.int .i64 x5,.int .i64 x6,.int .i64 x7,.int .i64 x8,.int .i64 x9,.int .i64 x10,.int .i64 x11,.int .i64 x12]⟩) = some (.bool false) := by
 simp only [abin,nonNum,eqAsk,aeq,aeqs,apart,ty23,ty3,TI.isAgg,Bool.and_self,if_true,Bool.false_eq_true,if_false,List.getElem?_cons_zero,List.getElem?_cons_succ,↓reduceIte,beq_self_eq_true,Option.map_some,Bool.not_true]
theorem specFewV {v : Value} {l : List Ev} (h : DL evC 4 v l) (hq : ∀ b : Bool,(b = true → l.length ≤ 40 ∧ ∀ e ∈ l,e.b.size ≤ 512) → Q (.bool b) σ) : CallS E B 4 [v,.int .i64 40] σ Q := by
 have hlen := DLe.len h
 refine call4 (by simp) ?_
 simp only [strip,bodyOf,Tryd.f4,getD_body,keepN,bareOp_mk,lessOp_mk,lapp_cons,lapp_nil,List.map_cons,List.map_nil,array_toList,↓reduceIte,Nat.reduceEqDiff,Bool.false_eq_true]
 simp (disch := first | assumption | simp) only [↓sbD,sbU,tyB,Nat.reduceMul,Nat.reduceSub,Int.reduceEq,Int.reduceLT,Int.reduceLE,Int.reduceNe,Nat.reduceBneDiff,Nat.reduceBEq,decide_false,gt_iff_lt,Bool.or_self,Bool.false_eq_true,Nat.mul_one,Nat.one_mul,Nat.zero_mul,↓reduceIte,Nat.reduceEqDiff,Nat.reduceLT,Nat.reduceAdd,Nat.reduceLeDiff,reduceCtorEq,goInt,pairs,isConst,TI.isAgg,splice,boxS,Edp,dpv,Nat.beq_eq,ZV.val,List.any_cons,List.any_nil,Bool.false_and]
 refine S_loop (fun k f σ' => σ' = σ ∧ ∃ i : Nat,i ≤ 40 ∧ i ≤ l.length ∧ k + i = l.length ∧ f 5 = .int .i64 i ∧ ∀ j (hj : j < l.length),j < i → (l[j]).b.size ≤ 512) l.length (Le.refl _) ⟨rfl,0,by omega,by omega,by omega,by simp (disch := first | assumption | simp) only [↓sbD,sbU,tyB,Nat.reduceMul,Nat.reduceSub,Int.reduceEq,Int.reduceLT,Int.reduceLE,Int.reduceNe,Nat.reduceBneDiff,Nat.reduceBEq,decide_false,gt_iff_lt,Bool.or_self,Bool.false_eq_true,Nat.mul_one,Nat.one_mul,Nat.zero_mul,↓reduceIte,Nat.reduceEqDiff,Nat.reduceLT,Nat.reduceAdd,Nat.reduceLeDiff,reduceCtorEq,goInt,pairs,isConst,TI.isAgg,splice,boxS,Edp,dpv,Nat.beq_eq,ZV.val,List.any_cons,List.any_nil,Bool.false_and]; rfl,fun j hj h => by omega⟩ ?_
 rintro k f σ' ⟨rfl,i,h20,hil,hk,f5,hall⟩ hf
 have f0 := hf 0 (by decide) (notMem_wr (by kernel_rfl))
 have f1 := hf 1 (by decide) (notMem_wr (by kernel_rfl))
 simp (disch := first | assumption | simp) only [↓sbD,sbU,tyB,Nat.reduceMul,Nat.reduceSub,Int.reduceEq,Int.reduceLT,Int.reduceLE,Int.reduceNe,Nat.reduceBneDiff,Nat.reduceBEq,decide_false,gt_iff_lt,Bool.or_self,Bool.false_eq_true,Nat.mul_one,Nat.one_mul,Nat.zero_mul,↓reduceIte,Nat.reduceEqDiff,Nat.reduceLT,Nat.reduceAdd,Nat.reduceLeDiff,reduceCtorEq,goInt,pairs,isConst,TI.isAgg,splice,boxS,Edp,dpv,Nat.beq_eq,ZV.val,List.any_cons,List.any_nil,Bool.false_and] at f0 f1
 clear hf
 by_cases h1 : (i : Int) < (l.length : Int)
 ·by_cases h2 : (i : Int) < 40
  ·have hi : i < l.length := by omega
   have hia := DLe.at h hi
   have hw := wrap_suc (n := i) (by omega)
   generalize hy : l[i] = y at hia
   have hac : evC y = [.int .i64 y.k,.int .i64 y.c,.string y.b,.int .i64 y.n] := rfl
   by_cases hb : (512 : Int) < (y.b.size : Int)
   ·simp (disch := first | assumption | simp) only [↓sbD,sbU,tyB,Nat.reduceMul,Nat.reduceSub,Int.reduceEq,Int.reduceLT,Int.reduceLE,Int.reduceNe,Nat.reduceBneDiff,Nat.reduceBEq,decide_false,gt_iff_lt,Bool.or_self,Bool.false_eq_true,Nat.mul_one,Nat.one_mul,Nat.zero_mul,↓reduceIte,Nat.reduceEqDiff,Nat.reduceLT,Nat.reduceAdd,Nat.reduceLeDiff,reduceCtorEq,goInt,pairs,isConst,TI.isAgg,splice,boxS,Edp,dpv,Nat.beq_eq,ZV.val,List.any_cons,List.any_nil,Bool.false_and,f0,f1,f5,hlen,h1,h2,hia,hac,hb]
    exact downS_here (hq false (fun h => by cases h))
   ·simp (disch := first | assumption | simp) only [↓sbD,sbU,tyB,Nat.reduceMul,Nat.reduceSub,Int.reduceEq,Int.reduceLT,Int.reduceLE,Int.reduceNe,Nat.reduceBneDiff,Nat.reduceBEq,decide_false,gt_iff_lt,Bool.or_self,Bool.false_eq_true,Nat.mul_one,Nat.one_mul,Nat.zero_mul,↓reduceIte,Nat.reduceEqDiff,Nat.reduceLT,Nat.reduceAdd,Nat.reduceLeDiff,reduceCtorEq,goInt,pairs,isConst,TI.isAgg,splice,boxS,Edp,dpv,Nat.beq_eq,ZV.val,List.any_cons,List.any_nil,Bool.false_and,f0,f1,f5,hlen,h1,h2,hia,hac,hb,hw]
    refine ⟨_,k - 1,_,rfl,by omega,Le.refl _,rfl,i + 1,by omega,by omega,by omega,by simp (disch := first | assumption | simp) only [↓sbD,sbU,tyB,Nat.reduceMul,Nat.reduceSub,Int.reduceEq,Int.reduceLT,Int.reduceLE,Int.reduceNe,Nat.reduceBneDiff,Nat.reduceBEq,decide_false,gt_iff_lt,Bool.or_self,Bool.false_eq_true,Nat.mul_one,Nat.one_mul,Nat.zero_mul,↓reduceIte,Nat.reduceEqDiff,Nat.reduceLT,Nat.reduceAdd,Nat.reduceLeDiff,reduceCtorEq,goInt,pairs,isConst,TI.isAgg,splice,boxS,Edp,dpv,Nat.beq_eq,ZV.val,List.any_cons,List.any_nil,Bool.false_and],fun j hj hji => ?_⟩
    rcases (by omega : j < i ∨ j = i) with h3 | rfl
    ·exact hall j hj h3
    ·rw [hy]; omega
  ·have h3 : i = 40 := by omega
   have h4 : ¬ (l.length : Int) ≤ 40 := by omega
   simp (disch := first | assumption | simp) only [↓sbD,sbU,tyB,Nat.reduceMul,Nat.reduceSub,Int.reduceEq,Int.reduceLT,Int.reduceLE,Int.reduceNe,Nat.reduceBneDiff,Nat.reduceBEq,decide_false,gt_iff_lt,Bool.or_self,Bool.false_eq_true,Nat.mul_one,Nat.one_mul,Nat.zero_mul,↓reduceIte,Nat.reduceEqDiff,Nat.reduceLT,Nat.reduceAdd,Nat.reduceLeDiff,reduceCtorEq,goInt,pairs,isConst,TI.isAgg,splice,boxS,Edp,dpv,Nat.beq_eq,ZV.val,List.any_cons,List.any_nil,Bool.false_and,f0,f1,f5,hlen,h1,h2,h4]
   exact downS_here (hq false (fun h => by cases h))
 ·have hi : i = l.length := by omega
  have h4 : (l.length : Int) ≤ 40 := by omega
  simp (disch := first | assumption | simp) only [↓sbD,sbU,tyB,Nat.reduceMul,Nat.reduceSub,Int.reduceEq,Int.reduceLT,Int.reduceLE,Int.reduceNe,Nat.reduceBneDiff,Nat.reduceBEq,decide_false,gt_iff_lt,Bool.or_self,Bool.false_eq_true,Nat.mul_one,Nat.one_mul,Nat.zero_mul,↓reduceIte,Nat.reduceEqDiff,Nat.reduceLT,Nat.reduceAdd,Nat.reduceLeDiff,reduceCtorEq,goInt,pairs,isConst,TI.isAgg,splice,boxS,Edp,dpv,Nat.beq_eq,ZV.val,List.any_cons,List.any_nil,Bool.false_and,f0,f1,f5,hlen,h1,h4]
  refine downS_here (hq true fun _ => ⟨by omega,fun a ha => ?_⟩)
  obtain ⟨j,hj,rfl⟩ := List.getElem_of_mem ha
  exact hall j hj (by omega)
end
theorem tot_few : ∀ {l : List Ev},(∀ e ∈ l,e.b.size ≤ 512) → tot l ≤ 520 * l.length
 | [],_ => by simp [tot]
 | e :: l,h => by
  unfold tot
  have := tot_few (l := l) fun x hx => h x (by simp [hx])
  have := h e (by simp)
  rw [List.length_cons]; omega
theorem putB_size {c : List Int} (hc : c.length = 13) (l : List Ev) : (putB c l).size = 59 + tot l := by
 unfold putB
 rw [ByteArray.size_append,ByteArray.size_append,ByteArray.size_append,n4_size,hc,numB_k (by simp),evsB_size]
 rfl
theorem law3 {H : AHeap} {vs : List Value} (hB0 : Ext B H) (h : ArgsTyped E H 8 [23,24,9] vs) : CallW E 3 vs H fun r _ => r = .bool true := by
 obtain ⟨u,vs1,rfl,t1,e1⟩ := h.cons'
 obtain ⟨v,vs2,rfl,t2,e2⟩ := e1.cons'
 obtain ⟨w,vs3,rfl,t3,e3⟩ := e2.cons'
 obtain rfl := e3.nil'
 obtain ⟨c,hc,rfl⟩ := typed_cfg t1
 obtain ⟨l,hv⟩ := typed_evs t2
 obtain ⟨s,rfl⟩ := typed_s1 t3
 clear t1 t2 t3 e1 e2 e3 h
 have key : CallS E B 3 [.agg ⟨cfgC c⟩,v,.string s] .empty fun r _ => r = .bool true := by
  obtain ⟨x0,x1,x2,x3,x4,x5,x6,x7,x8,x9,x10,x11,x12,hce⟩ := len13 hc
  have hcl : cfgC c = [.int .i64 x0,.int .i64 x1,.int .i64 x2,.int .i64 x3,.int .i64 x4,.int .i64 x5,.int .i64 x6,.int .i64 x7,.int .i64 x8,.int .i64 x9,.int .i64 x10,.int .i64 x11,.int .i64 x12] := by rw [hce]; rfl
  refine call3 (by simp) ?_
  simp only [strip,bodyOf,Tryd.f3,getD_body,keepN,bareOp_mk,lessOp_mk,lapp_cons,lapp_nil,List.map_cons,List.map_nil,array_toList,↓reduceIte,Nat.reduceEqDiff,Bool.false_eq_true]
  rw [hcl]
  simp (disch := first | assumption | simp) only [↓sbD,sbU,tyB,Nat.reduceMul,Nat.reduceSub,Int.reduceEq,Int.reduceLT,Int.reduceLE,Int.reduceNe,Nat.reduceBneDiff,Nat.reduceBEq,decide_false,gt_iff_lt,Bool.or_self,Bool.false_eq_true,Nat.mul_one,Nat.one_mul,Nat.zero_mul,↓reduceIte,Nat.reduceEqDiff,Nat.reduceLT,Nat.reduceAdd,Nat.reduceLeDiff,reduceCtorEq,goInt,pairs,isConst,TI.isAgg,splice,boxS,Edp,dpv,Nat.beq_eq,ZV.val,List.any_cons,List.any_nil,Bool.false_and,AS_new,dpC]
  intro b hb
  generalize hσ1 : AHeap.set _ b _ = σ1
  have gb1 : σ1.get b = .cells [.int .i64 x0,.int .i64 x1,.int .i64 x2,.int .i64 x3,.int .i64 x4,.int .i64 x5,.int .i64 x6,.int .i64 x7,.int .i64 x8,.int .i64 x9,.int .i64 x10,.int .i64 x11,.int .i64 x12] true 0 := by rw [← hσ1]; exact AHeap.get_set_same _ _ _
  clear hσ1
  try simp (disch := first | assumption | simp) only [↓sbD,sbU,tyB,Nat.reduceMul,Nat.reduceSub,Int.reduceEq,Int.reduceLT,Int.reduceLE,Int.reduceNe,Nat.reduceBneDiff,Nat.reduceBEq,decide_false,gt_iff_lt,Bool.or_self,Bool.false_eq_true,Nat.mul_one,Nat.one_mul,Nat.zero_mul,↓reduceIte,Nat.reduceEqDiff,Nat.reduceLT,Nat.reduceAdd,Nat.reduceLeDiff,reduceCtorEq,goInt,pairs,isConst,TI.isAgg,splice,boxS,Edp,dpv,Nat.beq_eq,ZV.val,List.any_cons,List.any_nil,Bool.false_and]
  refine specFewV hv fun few hfew => ?_
  cases few with
  | false =>
   simp (disch := first | assumption | simp) only [↓sbD,sbU,tyB,Nat.reduceMul,Nat.reduceSub,Int.reduceEq,Int.reduceLT,Int.reduceLE,Int.reduceNe,Nat.reduceBneDiff,Nat.reduceBEq,decide_false,gt_iff_lt,Bool.or_self,Bool.false_eq_true,Nat.mul_one,Nat.one_mul,Nat.zero_mul,↓reduceIte,Nat.reduceEqDiff,Nat.reduceLT,Nat.reduceAdd,Nat.reduceLeDiff,reduceCtorEq,goInt,pairs,isConst,TI.isAgg,splice,boxS,Edp,dpv,Nat.beq_eq,ZV.val,List.any_cons,List.any_nil,Bool.false_and,not_bool,Bool.not_false]
   refine specS5 ?_
   simp (disch := first | assumption | simp) only [↓sbD,sbU,tyB,Nat.reduceMul,Nat.reduceSub,Int.reduceEq,Int.reduceLT,Int.reduceLE,Int.reduceNe,Nat.reduceBneDiff,Nat.reduceBEq,decide_false,gt_iff_lt,Bool.or_self,Bool.false_eq_true,Nat.mul_one,Nat.one_mul,Nat.zero_mul,↓reduceIte,Nat.reduceEqDiff,Nat.reduceLT,Nat.reduceAdd,Nat.reduceLeDiff,reduceCtorEq,goInt,pairs,isConst,TI.isAgg,splice,boxS,Edp,dpv,Nat.beq_eq,ZV.val,List.any_cons,List.any_nil,Bool.false_and]
   exact downS_here rfl
  | true =>
  obtain ⟨hl40,hl5⟩ := hfew rfl
  by_cases hz : (8192 : Int) < (s.size : Int)
  ·simp (disch := first | assumption | simp) only [↓sbD,sbU,tyB,Nat.reduceMul,Nat.reduceSub,Int.reduceEq,Int.reduceLT,Int.reduceLE,Int.reduceNe,Nat.reduceBneDiff,Nat.reduceBEq,decide_false,gt_iff_lt,Bool.or_self,Bool.false_eq_true,Nat.mul_one,Nat.one_mul,Nat.zero_mul,↓reduceIte,Nat.reduceEqDiff,Nat.reduceLT,Nat.reduceAdd,Nat.reduceLeDiff,reduceCtorEq,goInt,pairs,isConst,TI.isAgg,splice,boxS,Edp,dpv,Nat.beq_eq,ZV.val,List.any_cons,List.any_nil,Bool.false_and,hz,not_bool,Bool.not_true]
   refine specS5 ?_
   simp (disch := first | assumption | simp) only [↓sbD,sbU,tyB,Nat.reduceMul,Nat.reduceSub,Int.reduceEq,Int.reduceLT,Int.reduceLE,Int.reduceNe,Nat.reduceBneDiff,Nat.reduceBEq,decide_false,gt_iff_lt,Bool.or_self,Bool.false_eq_true,Nat.mul_one,Nat.one_mul,Nat.zero_mul,↓reduceIte,Nat.reduceEqDiff,Nat.reduceLT,Nat.reduceAdd,Nat.reduceLeDiff,reduceCtorEq,goInt,pairs,isConst,TI.isAgg,splice,boxS,Edp,dpv,Nat.beq_eq,ZV.val,List.any_cons,List.any_nil,Bool.false_and]
   exact downS_here rfl
  have htf := tot_few hl5
  have back : ∀ (f : Nat → Value) (τ : AHeap),True := fun _ _ => trivial
  simp (disch := first | assumption | simp) only [↓sbD,sbU,tyB,Nat.reduceMul,Nat.reduceSub,Int.reduceEq,Int.reduceLT,Int.reduceLE,Int.reduceNe,Nat.reduceBneDiff,Nat.reduceBEq,decide_false,gt_iff_lt,Bool.or_self,Bool.false_eq_true,Nat.mul_one,Nat.one_mul,Nat.zero_mul,↓reduceIte,Nat.reduceEqDiff,Nat.reduceLT,Nat.reduceAdd,Nat.reduceLeDiff,reduceCtorEq,goInt,pairs,isConst,TI.isAgg,splice,boxS,Edp,dpv,Nat.beq_eq,ZV.val,List.any_cons,List.any_nil,Bool.false_and,hz,not_bool,Bool.not_true,gb1]
  rw [← hcl]
  refine specSPut hc hv (by omega) (fun hok => ?_) fun hok u x => ?_
  ·simp (disch := first | assumption | simp) only [↓sbD,sbU,tyB,Nat.reduceMul,Nat.reduceSub,Int.reduceEq,Int.reduceLT,Int.reduceLE,Int.reduceNe,Nat.reduceBneDiff,Nat.reduceBEq,decide_false,gt_iff_lt,Bool.or_self,Bool.false_eq_true,Nat.mul_one,Nat.one_mul,Nat.zero_mul,↓reduceIte,Nat.reduceEqDiff,Nat.reduceLT,Nat.reduceAdd,Nat.reduceLeDiff,reduceCtorEq,goInt,pairs,isConst,TI.isAgg,splice,boxS,Edp,dpv,Nat.beq_eq,ZV.val,List.any_cons,List.any_nil,Bool.false_and]
   refine specSTake (by rw [putB_size hc]; omega) (fun c1 l1 ht1 hc1 hl1 v1 hv1 => ?_) fun k rr a ht1 => by rw [put_take hc hok] at ht1; cases ht1
   rw [put_take hc hok] at ht1
   simp only [Except.ok.injEq,Prod.mk.injEq] at ht1
   obtain ⟨rfl,rfl⟩ := ht1
   rw [hcl]
   simp (disch := first | assumption | simp) only [↓sbD,sbU,tyB,Nat.reduceMul,Nat.reduceSub,Int.reduceEq,Int.reduceLT,Int.reduceLE,Int.reduceNe,Nat.reduceBneDiff,Nat.reduceBEq,decide_false,gt_iff_lt,Bool.or_self,Bool.false_eq_true,Nat.mul_one,Nat.one_mul,Nat.zero_mul,↓reduceIte,Nat.reduceEqDiff,Nat.reduceLT,Nat.reduceAdd,Nat.reduceLeDiff,reduceCtorEq,goInt,pairs,isConst,TI.isAgg,splice,boxS,Edp,dpv,Nat.beq_eq,ZV.val,List.any_cons,List.any_nil,Bool.false_and,AS_new,zeCfg',dpC]
   intro d hd
   have hdb : d ≠ b := by rintro rfl; rw [gb1] at hd; cases hd
   try simp (disch := first | assumption | simp) only [↓sbD,sbU,tyB,Nat.reduceMul,Nat.reduceSub,Int.reduceEq,Int.reduceLT,Int.reduceLE,Int.reduceNe,Nat.reduceBneDiff,Nat.reduceBEq,decide_false,gt_iff_lt,Bool.or_self,Bool.false_eq_true,Nat.mul_one,Nat.one_mul,Nat.zero_mul,↓reduceIte,Nat.reduceEqDiff,Nat.reduceLT,Nat.reduceAdd,Nat.reduceLeDiff,reduceCtorEq,goInt,pairs,isConst,TI.isAgg,splice,boxS,Edp,dpv,Nat.beq_eq,ZV.val,List.any_cons,List.any_nil,Bool.false_and,AHeap.get_set_same]
   generalize hσ2 : AHeap.set (AHeap.set σ1 d _) d _ = σ2
   have gd2 : σ2.get d = .cells [.int .i64 x0,.int .i64 x1,.int .i64 x2,.int .i64 x3,.int .i64 x4,.int .i64 x5,.int .i64 x6,.int .i64 x7,.int .i64 x8,.int .i64 x9,.int .i64 x10,.int .i64 x11,.int .i64 x12] true 0 := by rw [← hσ2]; exact AHeap.get_set_same _ _ _
   have gb2 : σ2.get b = .cells [.int .i64 x0,.int .i64 x1,.int .i64 x2,.int .i64 x3,.int .i64 x4,.int .i64 x5,.int .i64 x6,.int .i64 x7,.int .i64 x8,.int .i64 x9,.int .i64 x10,.int .i64 x11,.int .i64 x12] true 0 := by rw [← hσ2,AHeap.get_set_ne _ _ hdb,AHeap.get_set_ne _ _ hdb]; exact gb1
   clear hσ2 hd gb1
   simp (disch := first | assumption | simp) only [↓sbD,sbU,tyB,Nat.reduceMul,Nat.reduceSub,Int.reduceEq,Int.reduceLT,Int.reduceLE,Int.reduceNe,Nat.reduceBneDiff,Nat.reduceBEq,decide_false,gt_iff_lt,Bool.or_self,Bool.false_eq_true,Nat.mul_one,Nat.one_mul,Nat.zero_mul,↓reduceIte,Nat.reduceEqDiff,Nat.reduceLT,Nat.reduceAdd,Nat.reduceLeDiff,reduceCtorEq,goInt,pairs,isConst,TI.isAgg,splice,boxS,Edp,dpv,Nat.beq_eq,ZV.val,List.any_cons,List.any_nil,Bool.false_and,gd2,gb2,cfgNe]
   refine specESame hv1 hv (by omega) ?_
   simp (disch := first | assumption | simp) only [↓sbD,sbU,tyB,Nat.reduceMul,Nat.reduceSub,Int.reduceEq,Int.reduceLT,Int.reduceLE,Int.reduceNe,Nat.reduceBneDiff,Nat.reduceBEq,decide_false,gt_iff_lt,Bool.or_self,Bool.false_eq_true,Nat.mul_one,Nat.one_mul,Nat.zero_mul,↓reduceIte,Nat.reduceEqDiff,Nat.reduceLT,Nat.reduceAdd,Nat.reduceLeDiff,reduceCtorEq,goInt,pairs,isConst,TI.isAgg,splice,boxS,Edp,dpv,Nat.beq_eq,ZV.val,List.any_cons,List.any_nil,Bool.false_and,not_bool,Bool.not_true]
   refine specSTake (by omega) (fun c2 l2 ht2 hc2 hl2 v2 hv2 => ?_) fun k rr a ht2 d0 z0 hd0 her => ?_
   ·obtain ⟨hok2,hput⟩ := take_put ht2
    have hsz2 := putB_size hc2 l2
    rw [hput] at hsz2
    obtain ⟨y0,y1,y2,y3,y4,y5,y6,y7,y8,y9,y10,y11,y12,hce2⟩ := len13 hc2
    have hcl2 : cfgC c2 = [.int .i64 y0,.int .i64 y1,.int .i64 y2,.int .i64 y3,.int .i64 y4,.int .i64 y5,.int .i64 y6,.int .i64 y7,.int .i64 y8,.int .i64 y9,.int .i64 y10,.int .i64 y11,.int .i64 y12] := by rw [hce2]; rfl
    rw [hcl2]
    simp (disch := first | assumption | simp) only [↓sbD,sbU,tyB,Nat.reduceMul,Nat.reduceSub,Int.reduceEq,Int.reduceLT,Int.reduceLE,Int.reduceNe,Nat.reduceBneDiff,Nat.reduceBEq,decide_false,gt_iff_lt,Bool.or_self,Bool.false_eq_true,Nat.mul_one,Nat.one_mul,Nat.zero_mul,↓reduceIte,Nat.reduceEqDiff,Nat.reduceLT,Nat.reduceAdd,Nat.reduceLeDiff,reduceCtorEq,goInt,pairs,isConst,TI.isAgg,splice,boxS,Edp,dpv,Nat.beq_eq,ZV.val,List.any_cons,List.any_nil,Bool.false_and,AS_new,zeCfg',dpC]
    intro e he
    try simp (disch := first | assumption | simp) only [↓sbD,sbU,tyB,Nat.reduceMul,Nat.reduceSub,Int.reduceEq,Int.reduceLT,Int.reduceLE,Int.reduceNe,Nat.reduceBneDiff,Nat.reduceBEq,decide_false,gt_iff_lt,Bool.or_self,Bool.false_eq_true,Nat.mul_one,Nat.one_mul,Nat.zero_mul,↓reduceIte,Nat.reduceEqDiff,Nat.reduceLT,Nat.reduceAdd,Nat.reduceLeDiff,reduceCtorEq,goInt,pairs,isConst,TI.isAgg,splice,boxS,Edp,dpv,Nat.beq_eq,ZV.val,List.any_cons,List.any_nil,Bool.false_and,AHeap.get_set_same]
    generalize hσ3 : AHeap.set (AHeap.set _ e _) e _ = σ3
    have ge3 : σ3.get e = .cells [.int .i64 y0,.int .i64 y1,.int .i64 y2,.int .i64 y3,.int .i64 y4,.int .i64 y5,.int .i64 y6,.int .i64 y7,.int .i64 y8,.int .i64 y9,.int .i64 y10,.int .i64 y11,.int .i64 y12] true 0 := by rw [← hσ3]; exact AHeap.get_set_same _ _ _
    clear hσ3 he
    try simp (disch := first | assumption | simp) only [↓sbD,sbU,tyB,Nat.reduceMul,Nat.reduceSub,Int.reduceEq,Int.reduceLT,Int.reduceLE,Int.reduceNe,Nat.reduceBneDiff,Nat.reduceBEq,decide_false,gt_iff_lt,Bool.or_self,Bool.false_eq_true,Nat.mul_one,Nat.one_mul,Nat.zero_mul,↓reduceIte,Nat.reduceEqDiff,Nat.reduceLT,Nat.reduceAdd,Nat.reduceLeDiff,reduceCtorEq,goInt,pairs,isConst,TI.isAgg,splice,boxS,Edp,dpv,Nat.beq_eq,ZV.val,List.any_cons,List.any_nil,Bool.false_and,ge3]
    rw [← hcl2]
    refine specSPut hc2 hv2 (by omega) (fun _ => ?_) fun hno => absurd hok2 hno
    rw [hput]
    simp (disch := first | assumption | simp) only [↓sbD,sbU,tyB,Nat.reduceMul,Nat.reduceSub,Int.reduceEq,Int.reduceLT,Int.reduceLE,Int.reduceNe,Nat.reduceBneDiff,Nat.reduceBEq,decide_false,gt_iff_lt,Bool.or_self,Bool.false_eq_true,Nat.mul_one,Nat.one_mul,Nat.zero_mul,↓reduceIte,Nat.reduceEqDiff,Nat.reduceLT,Nat.reduceAdd,Nat.reduceLeDiff,reduceCtorEq,goInt,pairs,isConst,TI.isAgg,splice,boxS,Edp,dpv,Nat.beq_eq,ZV.val,List.any_cons,List.any_nil,Bool.false_and,eq_self]
    refine specS5 ?_
    simp (disch := first | assumption | simp) only [↓sbD,sbU,tyB,Nat.reduceMul,Nat.reduceSub,Int.reduceEq,Int.reduceLT,Int.reduceLE,Int.reduceNe,Nat.reduceBneDiff,Nat.reduceBEq,decide_false,gt_iff_lt,Bool.or_self,Bool.false_eq_true,Nat.mul_one,Nat.one_mul,Nat.zero_mul,↓reduceIte,Nat.reduceEqDiff,Nat.reduceLT,Nat.reduceAdd,Nat.reduceLeDiff,reduceCtorEq,goInt,pairs,isConst,TI.isAgg,splice,boxS,Edp,dpv,Nat.beq_eq,ZV.val,List.any_cons,List.any_nil,Bool.false_and]
    exact downS_here rfl
   ·rw [z13]
    simp (disch := first | assumption | simp) only [↓sbD,sbU,tyB,Nat.reduceMul,Nat.reduceSub,Int.reduceEq,Int.reduceLT,Int.reduceLE,Int.reduceNe,Nat.reduceBneDiff,Nat.reduceBEq,decide_false,gt_iff_lt,Bool.or_self,Bool.false_eq_true,Nat.mul_one,Nat.one_mul,Nat.zero_mul,↓reduceIte,Nat.reduceEqDiff,Nat.reduceLT,Nat.reduceAdd,Nat.reduceLeDiff,reduceCtorEq,goInt,pairs,isConst,TI.isAgg,splice,boxS,Edp,dpv,Nat.beq_eq,ZV.val,List.any_cons,List.any_nil,Bool.false_and,AS_new,zeCfg',dpC]
    intro e he
    try simp (disch := first | assumption | simp) only [↓sbD,sbU,tyB,Nat.reduceMul,Nat.reduceSub,Int.reduceEq,Int.reduceLT,Int.reduceLE,Int.reduceNe,Nat.reduceBneDiff,Nat.reduceBEq,decide_false,gt_iff_lt,Bool.or_self,Bool.false_eq_true,Nat.mul_one,Nat.one_mul,Nat.zero_mul,↓reduceIte,Nat.reduceEqDiff,Nat.reduceLT,Nat.reduceAdd,Nat.reduceLeDiff,reduceCtorEq,goInt,pairs,isConst,TI.isAgg,splice,boxS,Edp,dpv,Nat.beq_eq,ZV.val,List.any_cons,List.any_nil,Bool.false_and,AHeap.get_set_same]
    generalize hσ3 : AHeap.set (AHeap.set _ e _) e _ = σ3
    have ge3 : σ3.get e = .cells [.int .i64 0,.int .i64 0,.int .i64 0,.int .i64 0,.int .i64 0,.int .i64 0,.int .i64 0,.int .i64 0,.int .i64 0,.int .i64 0,.int .i64 0,.int .i64 0,.int .i64 0] true 0 := by rw [← hσ3]; exact AHeap.get_set_same _ _ _
    clear hσ3 he
    have hnil : ∀ τ : AHeap,abuiltin E τ .len [24] [.slice none 0 0] = some (.int .i64 0,τ) := fun _ => rfl
    try simp (disch := first | assumption | simp) only [↓sbD,sbU,tyB,Nat.reduceMul,Nat.reduceSub,Int.reduceEq,Int.reduceLT,Int.reduceLE,Int.reduceNe,Nat.reduceBneDiff,Nat.reduceBEq,decide_false,gt_iff_lt,Bool.or_self,Bool.false_eq_true,Nat.mul_one,Nat.one_mul,Nat.zero_mul,↓reduceIte,Nat.reduceEqDiff,Nat.reduceLT,Nat.reduceAdd,Nat.reduceLeDiff,reduceCtorEq,goInt,pairs,isConst,TI.isAgg,splice,boxS,Edp,dpv,Nat.beq_eq,ZV.val,List.any_cons,List.any_nil,Bool.false_and,ge3,zeCfg',cfgEq,hnil,eq_self]
    refine specS5 ?_
    simp (disch := first | assumption | simp) only [↓sbD,sbU,tyB,Nat.reduceMul,Nat.reduceSub,Int.reduceEq,Int.reduceLT,Int.reduceLE,Int.reduceNe,Nat.reduceBneDiff,Nat.reduceBEq,decide_false,gt_iff_lt,Bool.or_self,Bool.false_eq_true,Nat.mul_one,Nat.one_mul,Nat.zero_mul,↓reduceIte,Nat.reduceEqDiff,Nat.reduceLT,Nat.reduceAdd,Nat.reduceLeDiff,reduceCtorEq,goInt,pairs,isConst,TI.isAgg,splice,boxS,Edp,dpv,Nat.beq_eq,ZV.val,List.any_cons,List.any_nil,Bool.false_and]
    exact downS_here rfl
  ·simp (disch := first | assumption | simp) only [↓sbD,sbU,tyB,Nat.reduceMul,Nat.reduceSub,Int.reduceEq,Int.reduceLT,Int.reduceLE,Int.reduceNe,Nat.reduceBneDiff,Nat.reduceBEq,decide_false,gt_iff_lt,Bool.or_self,Bool.false_eq_true,Nat.mul_one,Nat.one_mul,Nat.zero_mul,↓reduceIte,Nat.reduceEqDiff,Nat.reduceLT,Nat.reduceAdd,Nat.reduceLeDiff,reduceCtorEq,goInt,pairs,isConst,TI.isAgg,splice,boxS,Edp,dpv,Nat.beq_eq,ZV.val,List.any_cons,List.any_nil,Bool.false_and]
   refine specSTake (by omega) (fun c2 l2 ht2 hc2 hl2 v2 hv2 => ?_) fun k rr a ht2 d0 z0 hd0 her => ?_
   ·obtain ⟨hok2,hput⟩ := take_put ht2
    have hsz2 := putB_size hc2 l2
    rw [hput] at hsz2
    obtain ⟨y0,y1,y2,y3,y4,y5,y6,y7,y8,y9,y10,y11,y12,hce2⟩ := len13 hc2
    have hcl2 : cfgC c2 = [.int .i64 y0,.int .i64 y1,.int .i64 y2,.int .i64 y3,.int .i64 y4,.int .i64 y5,.int .i64 y6,.int .i64 y7,.int .i64 y8,.int .i64 y9,.int .i64 y10,.int .i64 y11,.int .i64 y12] := by rw [hce2]; rfl
    rw [hcl2]
    simp (disch := first | assumption | simp) only [↓sbD,sbU,tyB,Nat.reduceMul,Nat.reduceSub,Int.reduceEq,Int.reduceLT,Int.reduceLE,Int.reduceNe,Nat.reduceBneDiff,Nat.reduceBEq,decide_false,gt_iff_lt,Bool.or_self,Bool.false_eq_true,Nat.mul_one,Nat.one_mul,Nat.zero_mul,↓reduceIte,Nat.reduceEqDiff,Nat.reduceLT,Nat.reduceAdd,Nat.reduceLeDiff,reduceCtorEq,goInt,pairs,isConst,TI.isAgg,splice,boxS,Edp,dpv,Nat.beq_eq,ZV.val,List.any_cons,List.any_nil,Bool.false_and,AS_new,zeCfg',dpC]
    intro e he
    try simp (disch := first | assumption | simp) only [↓sbD,sbU,tyB,Nat.reduceMul,Nat.reduceSub,Int.reduceEq,Int.reduceLT,Int.reduceLE,Int.reduceNe,Nat.reduceBneDiff,Nat.reduceBEq,decide_false,gt_iff_lt,Bool.or_self,Bool.false_eq_true,Nat.mul_one,Nat.one_mul,Nat.zero_mul,↓reduceIte,Nat.reduceEqDiff,Nat.reduceLT,Nat.reduceAdd,Nat.reduceLeDiff,reduceCtorEq,goInt,pairs,isConst,TI.isAgg,splice,boxS,Edp,dpv,Nat.beq_eq,ZV.val,List.any_cons,List.any_nil,Bool.false_and,AHeap.get_set_same]
    generalize hσ3 : AHeap.set (AHeap.set _ e _) e _ = σ3
    have ge3 : σ3.get e = .cells [.int .i64 y0,.int .i64 y1,.int .i64 y2,.int .i64 y3,.int .i64 y4,.int .i64 y5,.int .i64 y6,.int .i64 y7,.int .i64 y8,.int .i64 y9,.int .i64 y10,.int .i64 y11,.int .i64 y12] true 0 := by rw [← hσ3]; exact AHeap.get_set_same _ _ _
    clear hσ3 he
    try simp (disch := first | assumption | simp) only [↓sbD,sbU,tyB,Nat.reduceMul,Nat.reduceSub,Int.reduceEq,Int.reduceLT,Int.reduceLE,Int.reduceNe,Nat.reduceBneDiff,Nat.reduceBEq,decide_false,gt_iff_lt,Bool.or_self,Bool.false_eq_true,Nat.mul_one,Nat.one_mul,Nat.zero_mul,↓reduceIte,Nat.reduceEqDiff,Nat.reduceLT,Nat.reduceAdd,Nat.reduceLeDiff,reduceCtorEq,goInt,pairs,isConst,TI.isAgg,splice,boxS,Edp,dpv,Nat.beq_eq,ZV.val,List.any_cons,List.any_nil,Bool.false_and,ge3]
    rw [← hcl2]
    refine specSPut hc2 hv2 (by omega) (fun _ => ?_) fun hno => absurd hok2 hno
    rw [hput]
    simp (disch := first | assumption | simp) only [↓sbD,sbU,tyB,Nat.reduceMul,Nat.reduceSub,Int.reduceEq,Int.reduceLT,Int.reduceLE,Int.reduceNe,Nat.reduceBneDiff,Nat.reduceBEq,decide_false,gt_iff_lt,Bool.or_self,Bool.false_eq_true,Nat.mul_one,Nat.one_mul,Nat.zero_mul,↓reduceIte,Nat.reduceEqDiff,Nat.reduceLT,Nat.reduceAdd,Nat.reduceLeDiff,reduceCtorEq,goInt,pairs,isConst,TI.isAgg,splice,boxS,Edp,dpv,Nat.beq_eq,ZV.val,List.any_cons,List.any_nil,Bool.false_and,eq_self]
    refine specS5 ?_
    simp (disch := first | assumption | simp) only [↓sbD,sbU,tyB,Nat.reduceMul,Nat.reduceSub,Int.reduceEq,Int.reduceLT,Int.reduceLE,Int.reduceNe,Nat.reduceBneDiff,Nat.reduceBEq,decide_false,gt_iff_lt,Bool.or_self,Bool.false_eq_true,Nat.mul_one,Nat.one_mul,Nat.zero_mul,↓reduceIte,Nat.reduceEqDiff,Nat.reduceLT,Nat.reduceAdd,Nat.reduceLeDiff,reduceCtorEq,goInt,pairs,isConst,TI.isAgg,splice,boxS,Edp,dpv,Nat.beq_eq,ZV.val,List.any_cons,List.any_nil,Bool.false_and]
    exact downS_here rfl
   ·rw [z13]
    simp (disch := first | assumption | simp) only [↓sbD,sbU,tyB,Nat.reduceMul,Nat.reduceSub,Int.reduceEq,Int.reduceLT,Int.reduceLE,Int.reduceNe,Nat.reduceBneDiff,Nat.reduceBEq,decide_false,gt_iff_lt,Bool.or_self,Bool.false_eq_true,Nat.mul_one,Nat.one_mul,Nat.zero_mul,↓reduceIte,Nat.reduceEqDiff,Nat.reduceLT,Nat.reduceAdd,Nat.reduceLeDiff,reduceCtorEq,goInt,pairs,isConst,TI.isAgg,splice,boxS,Edp,dpv,Nat.beq_eq,ZV.val,List.any_cons,List.any_nil,Bool.false_and,AS_new,zeCfg',dpC]
    intro e he
    try simp (disch := first | assumption | simp) only [↓sbD,sbU,tyB,Nat.reduceMul,Nat.reduceSub,Int.reduceEq,Int.reduceLT,Int.reduceLE,Int.reduceNe,Nat.reduceBneDiff,Nat.reduceBEq,decide_false,gt_iff_lt,Bool.or_self,Bool.false_eq_true,Nat.mul_one,Nat.one_mul,Nat.zero_mul,↓reduceIte,Nat.reduceEqDiff,Nat.reduceLT,Nat.reduceAdd,Nat.reduceLeDiff,reduceCtorEq,goInt,pairs,isConst,TI.isAgg,splice,boxS,Edp,dpv,Nat.beq_eq,ZV.val,List.any_cons,List.any_nil,Bool.false_and,AHeap.get_set_same]
    generalize hσ3 : AHeap.set (AHeap.set _ e _) e _ = σ3
    have ge3 : σ3.get e = .cells [.int .i64 0,.int .i64 0,.int .i64 0,.int .i64 0,.int .i64 0,.int .i64 0,.int .i64 0,.int .i64 0,.int .i64 0,.int .i64 0,.int .i64 0,.int .i64 0,.int .i64 0] true 0 := by rw [← hσ3]; exact AHeap.get_set_same _ _ _
    clear hσ3 he
    have hnil : ∀ τ : AHeap,abuiltin E τ .len [24] [.slice none 0 0] = some (.int .i64 0,τ) := fun _ => rfl
    try simp (disch := first | assumption | simp) only [↓sbD,sbU,tyB,Nat.reduceMul,Nat.reduceSub,Int.reduceEq,Int.reduceLT,Int.reduceLE,Int.reduceNe,Nat.reduceBneDiff,Nat.reduceBEq,decide_false,gt_iff_lt,Bool.or_self,Bool.false_eq_true,Nat.mul_one,Nat.one_mul,Nat.zero_mul,↓reduceIte,Nat.reduceEqDiff,Nat.reduceLT,Nat.reduceAdd,Nat.reduceLeDiff,reduceCtorEq,goInt,pairs,isConst,TI.isAgg,splice,boxS,Edp,dpv,Nat.beq_eq,ZV.val,List.any_cons,List.any_nil,Bool.false_and,ge3,zeCfg',cfgEq,hnil,eq_self]
    refine specS5 ?_
    simp (disch := first | assumption | simp) only [↓sbD,sbU,tyB,Nat.reduceMul,Nat.reduceSub,Int.reduceEq,Int.reduceLT,Int.reduceLE,Int.reduceNe,Nat.reduceBneDiff,Nat.reduceBEq,decide_false,gt_iff_lt,Bool.or_self,Bool.false_eq_true,Nat.mul_one,Nat.one_mul,Nat.zero_mul,↓reduceIte,Nat.reduceEqDiff,Nat.reduceLT,Nat.reduceAdd,Nat.reduceLeDiff,reduceCtorEq,goInt,pairs,isConst,TI.isAgg,splice,boxS,Edp,dpv,Nat.beq_eq,ZV.val,List.any_cons,List.any_nil,Bool.false_and]
    exact downS_here rfl
 exact (key H (ext_holds hB0)).mono fun r H' ⟨σ',_,h⟩ => h
end Go.Proofs.YtdiekikcnfjlnaaDoor.AbsA
