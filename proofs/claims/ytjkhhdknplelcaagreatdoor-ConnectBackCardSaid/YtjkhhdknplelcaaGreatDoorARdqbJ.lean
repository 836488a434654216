/-
  Parts of a law's proof.
-/
import Derived.Test.YtjkhhdknplelcaaGreatDoorAFwqdJ
namespace Go.Proofs.YtjkhhdknplelcaaGreatDoor.AbsB
open Go AbsYtjkhhdknplelcaaGreatDoor Abs
set_option maxRecDepth 100000
set_option maxHeartbeats 4000000
set_option linter.unusedSimpArgs false
set_option linter.unusedVariables false
def IsR (σ : AHeap) (r : Nat) (s : ByteArray) (p : Nat) (e : Value) : Prop := σ.get r = .cells [.string s,.int .i64 (p : Int),e] true 0
abbrev Rd (α : Type) := Except (Nat × Nat) (α × Nat)
def rawR (s : ByteArray) (p : Nat) (n : Int) : Rd ByteArray := if n < 0 then .error (4,p) else if s.size < p + n.toNat then .error (1,s.size) else .ok (s.extract p (p + n.toNat),p + n.toNat)
def RBad (σ : AHeap) (r : Nat) (s : ByteArray) (p k q : Nat) : Prop := ∃ d z,d ≤ 2 ∧ ErN d (fv 129 (q : Int) z) k ∧ IsR σ r s p (fv 129 (q : Int) z)
section
variable {σ : AHeap} {r p : Nat} {s : ByteArray} {Q : Value → AHeap → Prop}
theorem specRNew {Q : Value → AHeap → Prop} (h : ∀ r σ',σ.get r = .dead → Kept σ [] σ' [r] → IsR σ' r s 0 .nilIface → Q (.pointer (some ⟨r,0,none⟩)) σ') : CallS E B 52 [.string s] σ Q := by
 refine call52 (by simp) ?_
 simp only [strip,bodyOf,Tryz.f52,getD_body,keepN,bareOp_mk,List.map_cons,List.map_nil,↓reduceIte,Bool.false_eq_true]
 simp only [↓sbD,sbU,tyB,↓reduceIte,Nat.reduceLT,Nat.reduceAdd,Nat.reduceLeDiff,reduceCtorEq,pairs,splice,boxS,Edp,ZV.val]
 intro r hr
 simp only [↓sbD,sbU,↓reduceIte,Nat.reduceLT]
 exact downS_here (h r _ hr (Kept.new' hr) (AHeap.get_set_same _ _ _))
theorem specROff (hr : IsR σ r s p .nilIface) (h : Q (.bool false) σ) : CallS E B 109 [.pointer (some ⟨r,0,none⟩)] σ Q := by
 unfold IsR at hr
 refine call109 (by simp) ?_
 simp only [strip,bodyOf,Tryz.f109,getD_body,keepN,bareOp_mk,List.map_cons,List.map_nil,↓reduceIte,Bool.false_eq_true]
 simp only [↓sbD,sbU,tyB,↓reduceIte,Nat.reduceEqDiff,Nat.reduceLT,reduceCtorEq,isConst,hr]
 exact downS_here h
theorem specROffE {u : Nat} {x : Value} (hr : IsR σ r s p (.iface u x)) (h : Q (.bool true) σ) : CallS E B 109 [.pointer (some ⟨r,0,none⟩)] σ Q := by
 unfold IsR at hr
 refine call109 (by simp) ?_
 simp only [strip,bodyOf,Tryz.f109,getD_body,keepN,bareOp_mk,List.map_cons,List.map_nil,↓reduceIte,Bool.false_eq_true]
 simp only [↓sbD,sbU,tyB,↓reduceIte,Nat.reduceEqDiff,Nat.reduceLT,reduceCtorEq,isConst,hr]
 exact downS_here h
theorem specRErr {e : Value} (hr : IsR σ r s p e) (h : Q e σ) : CallS E B 56 [.pointer (some ⟨r,0,none⟩)] σ Q := by
 unfold IsR at hr
 refine call56 (by simp) ?_
 simp only [strip,bodyOf,Tryz.f56,getD_body,keepN,bareOp_mk,List.map_cons,List.map_nil,↓reduceIte,Bool.false_eq_true]
 simp only [↓sbD,sbU,tyB,↓reduceIte,Nat.reduceLT,reduceCtorEq,isConst,hr]
 exact downS_here h
theorem specRAt {e : Value} (hr : IsR σ r s p e) (h : Q (.int .i64 (p : Int)) σ) : CallS E B 54 [.pointer (some ⟨r,0,none⟩)] σ Q := by
 unfold IsR at hr
 refine call54 (by simp) ?_
 simp only [strip,bodyOf,Tryz.f54,getD_body,keepN,bareOp_mk,List.map_cons,List.map_nil,↓reduceIte,Bool.false_eq_true]
 simp only [↓sbD,sbU,tyB,↓reduceIte,Nat.reduceLT,reduceCtorEq,isConst,hr]
 exact downS_here h
theorem specRLeft {e : Value} (hr : IsR σ r s p e) (hp : p ≤ s.size) (hs : s.size ≤ 1000000000) (h : Q (.int .i64 ((s.size - p : Nat) : Int)) σ) : CallS E B 114 [.pointer (some ⟨r,0,none⟩)] σ Q := by
 unfold IsR at hr
 have hw : IntKind.i64.wrap ((s.size : Int) - (p : Int)) = ((s.size - p : Nat) : Int) := by rw [wrap64 ⟨by omega,by omega⟩]; omega
 refine call114 (by simp) ?_
 simp only [strip,bodyOf,Tryz.f114,getD_body,keepN,bareOp_mk,List.map_cons,List.map_nil,↓reduceIte,Bool.false_eq_true]
 simp only [↓sbD,sbU,tyB,Bool.or_self,↓reduceIte,Nat.reduceEqDiff,Nat.reduceLT,reduceCtorEq,goInt,isConst,hr,hw]
 exact downS_here h
theorem specRDone (hr : IsR σ r s p .nilIface) (hp : p ≤ s.size) (hs : s.size ≤ 1000000000) (hend : p = s.size → Q .nilIface σ) (hmore : p < s.size → Q (fv 129 (p : Int) (sent 2)) σ) : CallS E B 77 [.pointer (some ⟨r,0,none⟩)] σ Q := by
 have hr' := hr
 unfold IsR at hr'
 refine call77 (by simp) ?_
 simp only [strip,bodyOf,Tryz.f77,getD_body,keepN,bareOp_mk,List.map_cons,List.map_nil,↓reduceIte,Bool.false_eq_true]
 simp only [↓sbD,sbU,↓reduceIte,Nat.reduceLT,reduceCtorEq]
 refine specRErr hr ?_
 simp only [↓sbD,sbU,tyB,↓reduceIte,Nat.reduceEqDiff,Nat.reduceLT,reduceCtorEq,isConst]
 refine specRLeft hr hp hs ?_
 by_cases h0 : (0 : Int) < ((s.size - p : Nat) : Int)
 ·simp only [↓sbD,sbU,tyB,↓reduceIte,Nat.reduceEqDiff,Nat.reduceLT,reduceCtorEq,isConst,h0,hr',gk2]
  refine specNew (n := 2) ⟨by omega,by omega⟩ ?_
  simp only [↓sbD,sbU,↓reduceIte,Nat.reduceLT]
  exact downS_here (hmore (by omega))
 ·simp only [↓sbD,sbU,decide_false,↓reduceIte,Nat.reduceEqDiff,Nat.reduceLT,reduceCtorEq,isConst,h0]
  refine specRErr hr ?_
  simp only [↓sbD,sbU,↓reduceIte,Nat.reduceLT]
  exact downS_here (hend (by omega))
theorem specRDoneE {u : Nat} {x : Value} (hr : IsR σ r s p (.iface u x)) (h : Q (.iface u x) σ) : CallS E B 77 [.pointer (some ⟨r,0,none⟩)] σ Q := by
 refine call77 (by simp) ?_
 simp only [strip,bodyOf,Tryz.f77,getD_body,keepN,bareOp_mk,List.map_cons,List.map_nil,↓reduceIte,Bool.false_eq_true]
 simp only [↓sbD,sbU,↓reduceIte,Nat.reduceLT,reduceCtorEq]
 refine specRErr hr ?_
 simp only [↓sbD,sbU,tyB,↓reduceIte,Nat.reduceEqDiff,Nat.reduceLT,reduceCtorEq,isConst]
 refine specRErr hr ?_
 simp only [↓sbD,sbU,↓reduceIte,Nat.reduceLT]
 exact downS_here h
theorem specBack (hr : IsR σ r s p .nilIface) {q : Int} (h : Q unit σ) : CallS E B 110 [.pointer (some ⟨r,0,none⟩),.int .i64 q] σ Q := by
 unfold IsR at hr
 refine call110 (by simp) ?_
 simp only [strip,bodyOf,Tryz.f110,getD_body,keepN,bareOp_mk,List.map_cons,List.map_nil,↓reduceIte,Bool.false_eq_true]
 simp only [↓sbD,sbU,tyB,↓reduceIte,Nat.reduceEqDiff,Nat.reduceLT,reduceCtorEq,isConst,hr]
 exact downS_here h
theorem specBackE {u q : Nat} {x : Value} (hr : IsR σ r s p (.iface u x)) (h : ∀ σ',Kept σ [r] σ' [r] → IsR σ' r s q (.iface u x) → Q unit σ') : CallS E B 110 [.pointer (some ⟨r,0,none⟩),.int .i64 (q : Int)] σ Q := by
 unfold IsR at hr
 refine call110 (by simp) ?_
 simp only [strip,bodyOf,Tryz.f110,getD_body,keepN,bareOp_mk,List.map_cons,List.map_nil,↓reduceIte,Bool.false_eq_true]
 simp only [↓sbD,sbU,tyB,↓reduceIte,Nat.reduceEqDiff,Nat.reduceLT,Nat.reduceAdd,Nat.reduceLeDiff,reduceCtorEq,isConst,splice,hr]
 exact downS_here (h _ (Kept.set (by simp)) (AHeap.get_set_same _ _ _))
theorem slice_str {t : Nat} {a b z q} (ht : E.ty.get t = some ⟨.string,a,b,z,q⟩) {s : ByteArray} {lo hi : Nat} (h1 : lo ≤ hi) (h2 : hi ≤ s.size) : aslice E σ t (.string s) (some (.int .i64 (lo : Int))) (some (.int .i64 (hi : Int))) none = some (.string (s.extract lo hi)) := by
 have c1 : (0 : Int) ≤ (hi : Int) := by omega
 have c2 : (0 : Int) ≤ (lo : Int) := by omega
 simp [aslice,ht,abound,h1,h2]
theorem slice_from {t : Nat} {a b z q} (ht : E.ty.get t = some ⟨.string,a,b,z,q⟩) {s : ByteArray} {lo : Nat} (h1 : lo ≤ s.size) : aslice E σ t (.string s) (some (.int .i64 (lo : Int))) none none = some (.string (s.extract lo s.size)) := by
 simp [aslice,ht,abound,h1]
theorem specRRaw {n : Int} (hr : IsR σ r s p .nilIface) (hp : p ≤ s.size) (hs : s.size ≤ 1000000000)
  (hok : ∀ v q,rawR s p n = .ok (v,q) → ∀ σ',Kept σ [r] σ' [r] → IsR σ' r s q .nilIface → Q (.string v) σ')
  (hbad : ∀ k q,rawR s p n = .error (k,q) → ∀ σ',Kept σ [r] σ' [r] → RBad σ' r s p k q → Q (.string emp) σ') : CallS E B 112 [.pointer (some ⟨r,0,none⟩),.int .i64 n] σ Q := by
 have hr' := hr
 unfold IsR at hr'
 have hw : IntKind.i64.wrap ((s.size : Int) - (p : Int)) = (s.size : Int) - (p : Int) := wrap64 ⟨by omega,by omega⟩
 refine call112 (by simp) ?_
 simp only [strip,bodyOf,Tryz.f112,getD_body,keepN,bareOp_mk,lapp_cons,lapp_nil,List.map_cons,List.map_nil,↓reduceIte,Bool.false_eq_true]
 simp only [↓sbD,sbU,↓reduceIte,Nat.reduceLT,reduceCtorEq]
 refine specROff hr ?_
 by_cases h0 : n < 0
 ·simp only [↓sbD,sbU,tyB,↓reduceIte,Nat.reduceEqDiff,Nat.reduceLT,reduceCtorEq,isConst,h0,hr',gk4]
  refine specNew (n := 4) ⟨by omega,by omega⟩ ?_
  simp only [↓sbD,sbU,tyB,↓reduceIte,Nat.reduceEqDiff,Nat.reduceLT,Nat.reduceAdd,Nat.reduceLeDiff,reduceCtorEq,splice,hr']
  refine downS_here (hbad 4 p (by unfold rawR; rw [if_pos h0]) _ (Kept.set (by simp)) ⟨1,_,by omega,ErN.new _ _ ⟨by omega,by omega⟩,AHeap.get_set_same _ _ _⟩)
 ·by_cases h1 : (s.size : Int) - (p : Int) < n
  ·simp only [↓sbD,sbU,tyB,decide_false,Bool.or_self,↓reduceIte,Nat.reduceEqDiff,Nat.reduceLT,reduceCtorEq,goInt,isConst,h0,hr',hw,h1,gk1]
   refine specNew (n := 1) ⟨by omega,by omega⟩ ?_
   simp only [↓sbD,sbU,tyB,↓reduceIte,Nat.reduceEqDiff,Nat.reduceLT,Nat.reduceAdd,Nat.reduceLeDiff,reduceCtorEq,splice,hr']
   refine downS_here (hbad 1 s.size (by unfold rawR; rw [if_neg h0,if_pos (by omega)]) _ (Kept.set (by simp)) ⟨1,_,by omega,ErN.new _ _ ⟨by omega,by omega⟩,AHeap.get_set_same _ _ _⟩)
  ·obtain ⟨N,rfl⟩ : ∃ N : Nat,n = N := ⟨n.toNat,by omega⟩
   have hw2 : IntKind.i64.wrap ((p : Int) + (N : Int)) = ((p + N : Nat) : Int) := by rw [wrap64 ⟨by omega,by omega⟩]; omega
   have hsl := slice_str (σ := σ) ty9 (s := s) (lo := p) (hi := p + N) (by omega) (by omega)
   simp only [↓sbD,sbU,tyB,decide_false,Bool.or_self,↓reduceIte,Nat.reduceEqDiff,Nat.reduceLT,Nat.reduceAdd,Nat.reduceLeDiff,reduceCtorEq,goInt,isConst,splice,h0,hr',hw,h1,hw2,hsl]
   exact downS_here (hok _ _ (by unfold rawR; rw [if_neg h0,if_neg (by omega)]; rfl) _ (Kept.set (by simp)) (AHeap.get_set_same _ _ _))
theorem specRRawE {n : Int} {u : Nat} {x : Value} (hr : IsR σ r s p (.iface u x)) (h : Q (.string emp) σ) : CallS E B 112 [.pointer (some ⟨r,0,none⟩),.int .i64 n] σ Q := by
 refine call112 (by simp) ?_
 simp only [strip,bodyOf,Tryz.f112,getD_body,keepN,bareOp_mk,lapp_cons,lapp_nil,List.map_cons,List.map_nil,↓reduceIte,Bool.false_eq_true]
 simp only [↓sbD,sbU,↓reduceIte,Nat.reduceLT,reduceCtorEq]
 refine specROffE hr ?_
 simp only [↓sbD,sbU,↓reduceIte,Nat.reduceLT]
 exact downS_here h
end
def beF (b : ByteArray) : Nat → Nat
 | 0 => 0
 | i + 1 => beF b i * 256 + bt b i
def numR (s : ByteArray) (p k : Nat) : Rd Nat := match rawR s p k with
 | .ok (b,q) => .ok (beF b b.size,q)
 | .error e => .error e
def varR (s : ByteArray) (p : Nat) : Rd Nat := match takeF (s.extract p s.size) 4 0 0 with
 | .inl (n,k) => .ok (n,p + k)
 | .inr (k,q) => .error (k + 1,p + q)
def binR (s : ByteArray) (p : Nat) : Rd ByteArray := match numR s p 2 with
 | .ok (n,q) => rawR s q n
 | .error e => .error e
def textR (s : ByteArray) (p : Nat) : Rd ByteArray := match binR s p with
 | .ok (b,q) => match textF b with
  | .inl _ => .ok (b,q)
  | .inr (k,j) => .error (k + 1,p + 2 + j)
 | .error e => .error e
theorem beF_lt (b : ByteArray) : ∀ i,beF b i < 256 ^ i
 | 0 => by simp [beF]
 | i + 1 => by
  have h1 := beF_lt b i
  have h2 := bt_lt b i
  rw [beF,Nat.pow_succ]
  omega
theorem rawR_ok {s v : ByteArray} {p q : Nat} {n : Int} (h : rawR s p n = .ok (v,q)) : 0 ≤ n ∧ v = s.extract p q ∧ q = p + n.toNat ∧ q ≤ s.size ∧ v.size = n.toNat := by
 unfold rawR at h
 split at h
 ·cases h
 ·split at h
  ·cases h
  ·injection h with h; injection h with h1 h2
   subst h1; subst h2
   refine ⟨by omega,rfl,rfl,by omega,?_⟩
   rw [ByteArray.size_extract]; omega
theorem shl8 {σ : AHeap} {N t : Nat} {cs : Bool} (h : N < 16777216) : abin E σ .shl t cs (.int .i64 (N : Int)) (.int .u64 8) = some (.int .i64 ((N * 256 : Nat) : Int)) := by
 simp only [abin,ashift]
 rw [if_neg (by omega)]
 show some (Value.int .i64 (IntKind.i64.wrap ((N : Int) * 2 ^ 8))) = _
 rw [wrap64 ⟨by omega,by omega⟩]; congr 2
theorem or8 {N m : Nat} (h : N < 16777216) (hm : m < 256) : aint .or .i64 ((N * 256 : Nat) : Int) (m : Int) = some (.int .i64 ((N * 256 + m : Nat) : Int)) := by
 have e : N * 256 ||| m = N * 256 + m := by
  have := or_add (n := m) (m := N) (i := 8) (by omega)
  rw [Nat.or_comm,show N * 256 = N * 2 ^ 8 from rfl,this]; omega
 rw [abits_nat (by omega) (by omega) (by rw [e]; omega),e]
theorem conv_by {σ : AHeap} {b : ByteArray} {K : Value → AHeap → Prop} (hq : ∀ d,σ.get d = .dead → K (.slice (some ⟨d,0,none⟩) b.size b.size) (σ.set d (.cells (bytesOf b) true 1))) : afterOpS E B (some (convS E σ 9 58 (.string b))) σ K := by
 have e : convS E σ 9 58 (.string b) = .any fun d => aconvert E (σ.resize d) 9 58 (.string b) := by
  simp only [convS,conv_bytes,offHeap]
 rw [e]
 intro d hd
 exact ⟨_,_,conv_bytes,hq d (dead_of hd)⟩
section
variable {σ : AHeap} {r p : Nat} {s : ByteArray} {Q : Value → AHeap → Prop}
theorem specRNum {k : Nat} (hk : k ≤ 4) (hr : IsR σ r s p .nilIface) (hp : p ≤ s.size) (hs : s.size ≤ 1000000000)
  (hok : ∀ n q,numR s p k = .ok (n,q) → ∀ σ',Kept σ [r] σ' [r] → IsR σ' r s q .nilIface → Q (.int .i64 (n : Int)) σ')
  (hbad : ∀ e q,numR s p k = .error (e,q) → ∀ σ',Kept σ [r] σ' [r] → RBad σ' r s p e q → Q (.int .i64 0) σ') : CallS E B 111 [.pointer (some ⟨r,0,none⟩),.int .i64 (k : Int)] σ Q := by
 refine call111 (by simp) ?_
 simp only [strip,bodyOf,Tryz.f111,getD_body,keepN,bareOp_mk,List.map_cons,List.map_nil,↓reduceIte,Bool.false_eq_true]
 simp (disch := first | assumption | simp) only [↓sbD,sbU,↓reduceIte,Nat.reduceEqDiff,Nat.reduceLT,reduceCtorEq]
 refine specRRaw hr hp hs (fun b q hb σ1 k1 i1 => ?_) fun e q hb σ1 k1 i1 => ?_
 ·obtain ⟨_,_,_,_,hbz⟩ := rawR_ok hb
  rw [Int.toNat_natCast] at hbz
  simp (disch := first | assumption | simp) only [↓sbD,sbU,↓reduceIte,Nat.reduceLT]
  refine conv_by fun d hd => ?_
  simp (disch := first | assumption | simp) only [↓sbD,sbU,tyB,↓reduceIte,Nat.reduceLT,goInt]
  have hg : (σ1.set d (.cells (bytesOf b) true 1)).get d = .cells (bytesOf b) true 1 := AHeap.get_set_same _ _ _
  refine S_loop (fun m f σ' => σ' = σ1.set d (.cells (bytesOf b) true 1) ∧ ∃ i : Nat,i ≤ b.size ∧ m + i = b.size ∧ f 13 = .int .i64 i ∧ f 5 = .int .i64 (beF b i : Int)) b.size (Le.refl _) ⟨rfl,0,by omega,rfl,by simp (disch := first | assumption | simp) only [sbU,↓reduceIte]; rfl,by simp (disch := first | assumption | simp) only [sbU,↓reduceIte,Nat.reduceEqDiff]; rfl⟩ ?_
  rintro m f σ' ⟨rfl,i,hib,hm,f13,f5⟩ hf
  have f11 := hf 11 (by decide) (notMem_wr (by kernel_rfl))
  have f12 := hf 12 (by decide) (notMem_wr (by kernel_rfl))
  simp (disch := first | assumption | simp) only [sbU,↓reduceIte,Nat.reduceEqDiff] at f11 f12
  clear hf
  by_cases hi : (i : Int) < (b.size : Int)
  ·have hi' : i < b.size := by omega
   have hlt : beF b i < 16777216 := by
    have := beF_lt b i
    have h3 : 256 ^ i ≤ 256 ^ 3 := Nat.pow_le_pow_right (by omega) (by omega)
    omega
   have hw := wrap_suc (n := i) (by omega)
   have hbt : bt b i < 256 := bt_lt b i
   have hw2 : IntKind.i64.wrap ((bt b i : Nat) : Int) = ((bt b i : Nat) : Int) := wrap64 ⟨by omega,by omega⟩
   simp (disch := first | assumption | simp) only [↓sbD,sbU,tyB,Bool.or_self,Nat.mul_one,↓reduceIte,Nat.reduceEqDiff,Nat.reduceLT,isConst,f5,f11,f12,f13,hi,bytes_get hi',shl8 hlt,hw2,or8 hlt hbt,hw]
   exact ⟨_,m - 1,_,rfl,by omega,Le.refl _,rfl,i + 1,by omega,by omega,by simp (disch := first | assumption | simp) only [sbU,↓reduceIte],by simp (disch := first | assumption | simp) only [sbU,↓reduceIte,Nat.reduceEqDiff]; rfl⟩
  ·obtain rfl : i = b.size := by omega
   simp (disch := first | assumption | simp) only [↓sbD,sbU,decide_false,Bool.or_self,↓reduceIte,Nat.reduceEqDiff,Nat.reduceLT,isConst,f5,f12,f13,hi]
   refine downS_le (Le.new hd) (hok _ q (by unfold numR; rw [hb]) σ1 k1 i1)
 ·simp (disch := first | assumption | simp) only [↓sbD,sbU,↓reduceIte,Nat.reduceLT]
  refine conv_by fun d hd => ?_
  simp (disch := first | assumption | simp) only [↓sbD,sbU,tyB,↓reduceIte,Nat.reduceLT,goInt]
  have h0 : ((emp.size : Nat) : Int) = 0 := rfl
  refine S_loop (fun m f σ' => σ' = σ1.set d (.cells (bytesOf emp) true 1) ∧ f 13 = .int .i64 0 ∧ f 5 = .int .i64 0) 0 (Le.refl _) ⟨rfl,by simp (disch := first | assumption | simp) only [sbU,↓reduceIte],by simp (disch := first | assumption | simp) only [sbU,↓reduceIte,Nat.reduceEqDiff]⟩ ?_
  rintro m f σ' ⟨rfl,f13,f5⟩ hf
  have f12 := hf 12 (by decide) (notMem_wr (by kernel_rfl))
  simp (disch := first | assumption | simp) only [sbU,↓reduceIte,Nat.reduceEqDiff] at f12
  clear hf
  simp (disch := first | assumption | simp) only [↓sbD,sbU,Int.reduceLT,decide_false,Bool.or_self,↓reduceIte,Nat.reduceEqDiff,Nat.reduceLT,isConst,f5,f12,f13,h0]
  exact downS_le (Le.new hd) (hbad e q (by unfold numR; rw [hb]) σ1 k1 i1)
end
section
variable {σ : AHeap} {r p : Nat} {s : ByteArray} {Q : Value → AHeap → Prop}
theorem specRNumE {k : Nat} {u : Nat} {x : Value} (hr : IsR σ r s p (.iface u x)) (h : Q (.int .i64 0) σ) : CallS E B 111 [.pointer (some ⟨r,0,none⟩),.int .i64 (k : Int)] σ Q := by
 refine call111 (by simp) ?_
 simp only [strip,bodyOf,Tryz.f111,getD_body,keepN,bareOp_mk,List.map_cons,List.map_nil,↓reduceIte,Bool.false_eq_true]
 simp (disch := first | assumption | simp) only [↓sbD,sbU,↓reduceIte,Nat.reduceEqDiff,Nat.reduceLT,reduceCtorEq]
 refine specRRawE hr ?_
 simp (disch := first | assumption | simp) only [↓sbD,sbU,↓reduceIte,Nat.reduceLT]
 refine conv_by fun d hd => ?_
 simp (disch := first | assumption | simp) only [↓sbD,sbU,tyB,↓reduceIte,Nat.reduceLT,goInt]
 have h0 : ((emp.size : Nat) : Int) = 0 := rfl
 refine S_loop (fun m f σ' => σ' = σ.set d (.cells (bytesOf emp) true 1) ∧ f 13 = .int .i64 0 ∧ f 5 = .int .i64 0) 0 (Le.refl _) ⟨rfl,by simp (disch := first | assumption | simp) only [sbU,↓reduceIte],by simp (disch := first | assumption | simp) only [sbU,↓reduceIte,Nat.reduceEqDiff]⟩ ?_
 rintro m f σ' ⟨rfl,f13,f5⟩ hf
 have f12 := hf 12 (by decide) (notMem_wr (by kernel_rfl))
 simp (disch := first | assumption | simp) only [sbU,↓reduceIte,Nat.reduceEqDiff] at f12
 clear hf
 simp (disch := first | assumption | simp) only [↓sbD,sbU,Int.reduceLT,decide_false,Bool.or_self,↓reduceIte,Nat.reduceEqDiff,Nat.reduceLT,isConst,f5,f12,f13,h0]
 exact downS_le (Le.new hd) h
theorem specRU8 (hr : IsR σ r s p .nilIface) (hp : p ≤ s.size) (hs : s.size ≤ 1000000000)
  (hok : ∀ n q,numR s p 1 = .ok (n,q) → ∀ σ',Kept σ [r] σ' [r] → IsR σ' r s q .nilIface → Q (.int .i64 (n : Int)) σ')
  (hbad : ∀ e q,numR s p 1 = .error (e,q) → ∀ σ',Kept σ [r] σ' [r] → RBad σ' r s p e q → Q (.int .i64 0) σ') : CallS E B 75 [.pointer (some ⟨r,0,none⟩)] σ Q := by
 refine call75 (by simp) ?_
 simp only [strip,bodyOf,Tryz.f75,getD_body,keepN,bareOp_mk,List.map_cons,List.map_nil,↓reduceIte,Bool.false_eq_true]
 simp only [↓sbD,sbU,↓reduceIte,Nat.reduceLT,reduceCtorEq]
 refine specRNum (k := 1) (by omega) hr hp hs (fun n q hn σ' k1 i1 => ?_) fun e q hn σ' k1 i1 => ?_
 ·simp only [↓sbD,sbU,↓reduceIte,Nat.reduceLT]
  exact downS_here (hok n q hn σ' k1 i1)
 ·simp only [↓sbD,sbU,↓reduceIte,Nat.reduceLT]
  exact downS_here (hbad e q hn σ' k1 i1)
theorem specRU8E {u : Nat} {x : Value} (hr : IsR σ r s p (.iface u x)) (h : Q (.int .i64 0) σ) : CallS E B 75 [.pointer (some ⟨r,0,none⟩)] σ Q := by
 refine call75 (by simp) ?_
 simp only [strip,bodyOf,Tryz.f75,getD_body,keepN,bareOp_mk,List.map_cons,List.map_nil,↓reduceIte,Bool.false_eq_true]
 simp only [↓sbD,sbU,↓reduceIte,Nat.reduceLT,reduceCtorEq]
 refine specRNumE (k := 1) hr ?_
 simp only [↓sbD,sbU,↓reduceIte,Nat.reduceLT]
 exact downS_here h
theorem specRU16 (hr : IsR σ r s p .nilIface) (hp : p ≤ s.size) (hs : s.size ≤ 1000000000)
  (hok : ∀ n q,numR s p 2 = .ok (n,q) → ∀ σ',Kept σ [r] σ' [r] → IsR σ' r s q .nilIface → Q (.int .i64 (n : Int)) σ')
  (hbad : ∀ e q,numR s p 2 = .error (e,q) → ∀ σ',Kept σ [r] σ' [r] → RBad σ' r s p e q → Q (.int .i64 0) σ') : CallS E B 55 [.pointer (some ⟨r,0,none⟩)] σ Q := by
 refine call55 (by simp) ?_
 simp only [strip,bodyOf,Tryz.f55,getD_body,keepN,bareOp_mk,List.map_cons,List.map_nil,↓reduceIte,Bool.false_eq_true]
 simp only [↓sbD,sbU,↓reduceIte,Nat.reduceLT,reduceCtorEq]
 refine specRNum (k := 2) (by omega) hr hp hs (fun n q hn σ' k1 i1 => ?_) fun e q hn σ' k1 i1 => ?_
 ·simp only [↓sbD,sbU,↓reduceIte,Nat.reduceLT]
  exact downS_here (hok n q hn σ' k1 i1)
 ·simp only [↓sbD,sbU,↓reduceIte,Nat.reduceLT]
  exact downS_here (hbad e q hn σ' k1 i1)
theorem specRU16E {u : Nat} {x : Value} (hr : IsR σ r s p (.iface u x)) (h : Q (.int .i64 0) σ) : CallS E B 55 [.pointer (some ⟨r,0,none⟩)] σ Q := by
 refine call55 (by simp) ?_
 simp only [strip,bodyOf,Tryz.f55,getD_body,keepN,bareOp_mk,List.map_cons,List.map_nil,↓reduceIte,Bool.false_eq_true]
 simp only [↓sbD,sbU,↓reduceIte,Nat.reduceLT,reduceCtorEq]
 refine specRNumE (k := 2) hr ?_
 simp only [↓sbD,sbU,↓reduceIte,Nat.reduceLT]
 exact downS_here h
theorem specRU32 (hr : IsR σ r s p .nilIface) (hp : p ≤ s.size) (hs : s.size ≤ 1000000000)
  (hok : ∀ n q,numR s p 4 = .ok (n,q) → ∀ σ',Kept σ [r] σ' [r] → IsR σ' r s q .nilIface → Q (.int .i64 (n : Int)) σ')
  (hbad : ∀ e q,numR s p 4 = .error (e,q) → ∀ σ',Kept σ [r] σ' [r] → RBad σ' r s p e q → Q (.int .i64 0) σ') : CallS E B 166 [.pointer (some ⟨r,0,none⟩)] σ Q := by
 refine call166 (by simp) ?_
 simp only [strip,bodyOf,Tryz.f166,getD_body,keepN,bareOp_mk,List.map_cons,List.map_nil,↓reduceIte,Bool.false_eq_true]
 simp only [↓sbD,sbU,↓reduceIte,Nat.reduceLT,reduceCtorEq]
 refine specRNum (k := 4) (by omega) hr hp hs (fun n q hn σ' k1 i1 => ?_) fun e q hn σ' k1 i1 => ?_
 ·simp only [↓sbD,sbU,↓reduceIte,Nat.reduceLT]
  exact downS_here (hok n q hn σ' k1 i1)
 ·simp only [↓sbD,sbU,↓reduceIte,Nat.reduceLT]
  exact downS_here (hbad e q hn σ' k1 i1)
theorem takeF_k (b : ByteArray) : ∀ (k i n : Nat),i ≤ b.size → match takeF b k i n with
  | .inl (_,j) => j ≤ b.size
  | .inr (_,q) => q ≤ b.size + 3
 | 0,i,n,h => by simp only [takeF]; omega
 | k + 1,i,n,h => by
  unfold takeF
  by_cases h1 : i = b.size
  ·rw [if_pos h1]; show i ≤ b.size + 3; omega
  ·rw [if_neg h1]
   by_cases h2 : bt b i < 128
   ·rw [if_pos h2]
    by_cases h3 : bt b i = 0 ∧ 0 < i
    ·rw [if_pos h3]; show i ≤ b.size + 3; omega
    ·rw [if_neg h3]; show i + 1 ≤ b.size; omega
   ·rw [if_neg h2]
    exact takeF_k b k (i + 1) _ (by omega)
theorem specTake {b : ByteArray} {Q : Value → AHeap → Prop} (hs : b.size ≤ 100000000) (hok : ∀ n k,takeF b 4 0 0 = .inl (n,k) → Q (.tuple #[.int .i64 (n : Int),.int .i64 (k : Int),.nilIface]) σ)
  (hbad : ∀ k q,takeF b 4 0 0 = .inr (k,q) → Q (.tuple #[.int .i64 0,.int .i64 0,fv 129 (q : Int) (sent (k + 1))]) σ) : CallS E B 145 [.string b] σ Q :=
 of_W (P := fun r => match takeF b 4 0 0 with | .inl (n,k) => r = .tuple #[.int .i64 (n : Int),.int .i64 (k : Int),.nilIface] | .inr (k,q) => r = .tuple #[.int .i64 0,.int .i64 0,fv 129 (q : Int) (sent (k + 1))])
  (fun H hB => (spec145 hB hs).mono fun r H' ⟨h1,h2⟩ => ⟨h1,by
    cases ht : takeF b 4 0 0 with
    | inl a => obtain ⟨n,k⟩ := a; rw [ht] at h2; exact h2
    | inr a => obtain ⟨k,q⟩ := a; rw [ht] at h2; obtain ⟨e,h3,h4⟩ := h2; rw [h3,h4]⟩)
  fun r h => by
   cases ht : takeF b 4 0 0 with
   | inl a => obtain ⟨n,k⟩ := a; rw [ht] at h; rw [h]; exact hok n k ht
   | inr a => obtain ⟨k,q⟩ := a; rw [ht] at h; rw [h]; exact hbad k q ht
theorem specRVar (hr : IsR σ r s p .nilIface) (hp : p ≤ s.size) (hs : s.size ≤ 100000000)
  (hok : ∀ n q,varR s p = .ok (n,q) → ∀ σ',Kept σ [r] σ' [r] → IsR σ' r s q .nilIface → Q (.int .i64 (n : Int)) σ')
  (hbad : ∀ e q,varR s p = .error (e,q) → ∀ σ',Kept σ [r] σ' [r] → RBad σ' r s p e q → Q (.int .i64 0) σ') : CallS E B 113 [.pointer (some ⟨r,0,none⟩)] σ Q := by
 have hr' := hr
 unfold IsR at hr'
 have hsl := AbsYtjkhhdknplelcaaGreatDoor.slice_from (E := E) (H := σ) ty9 (s := s) (k := p) hp
 have hbs : (s.extract p s.size).size ≤ 100000000 := by rw [ByteArray.size_extract]; omega
 refine call113 (by simp) ?_
 simp only [strip,bodyOf,Tryz.f113,getD_body,keepN,bareOp_mk,List.map_cons,List.map_nil,↓reduceIte,Bool.false_eq_true]
 simp only [↓sbD,sbU,↓reduceIte,Nat.reduceLT,reduceCtorEq]
 refine specROff hr ?_
 simp only [↓sbD,sbU,tyB,↓reduceIte,Nat.reduceEqDiff,Nat.reduceLT,reduceCtorEq,hr',hsl]
 have hk := takeF_k (s.extract p s.size) 4 0 0 (by omega)
 refine specTake hbs (fun n k ht => ?_) fun k q ht => ?_
 ·rw [ht] at hk
  have hk : k ≤ (s.extract p s.size).size := hk
  have hw : IntKind.i64.wrap ((p : Int) + (k : Int)) = ((p + k : Nat) : Int) := by rw [wrap64 ⟨by omega,by omega⟩]; omega
  simp only [↓sbD,sbU,tyB,Bool.or_self,↓reduceIte,Nat.reduceEqDiff,Nat.reduceLT,Nat.reduceAdd,Nat.reduceLeDiff,reduceCtorEq,isConst,splice,hr',hw]
  exact downS_here (hok n (p + k) (by unfold varR; rw [ht]) _ (Kept.set (by simp)) (AHeap.get_set_same _ _ _))
 ·rw [ht] at hk
  have hk : q ≤ (s.extract p s.size).size + 3 := hk
  have hkd := takeF_kd _ _ _ _ _ _ ht
  simp only [↓sbD,sbU,tyB,↓reduceIte,Nat.reduceEqDiff,Nat.reduceLT,reduceCtorEq,isConst,hr']
  refine specDeeper (n := q) (m := p) (by omega) (by omega) ?_
  simp only [↓sbD,sbU,tyB,↓reduceIte,Nat.reduceEqDiff,Nat.reduceLT,Nat.reduceAdd,Nat.reduceLeDiff,reduceCtorEq,splice,hr']
  exact downS_here (hbad (k + 1) (p + q) (by unfold varR; rw [ht]) _ (Kept.set (by simp)) ⟨2,_,by omega,ErN.deeper _ _ (ErN.new _ _ ⟨by omega,by omega⟩),AHeap.get_set_same _ _ _⟩)
theorem specRVarE {u : Nat} {x : Value} (hr : IsR σ r s p (.iface u x)) (h : Q (.int .i64 0) σ) : CallS E B 113 [.pointer (some ⟨r,0,none⟩)] σ Q := by
 refine call113 (by simp) ?_
 simp only [strip,bodyOf,Tryz.f113,getD_body,keepN,bareOp_mk,List.map_cons,List.map_nil,↓reduceIte,Bool.false_eq_true]
 simp only [↓sbD,sbU,↓reduceIte,Nat.reduceLT,reduceCtorEq]
 refine specROffE hr ?_
 simp only [↓sbD,sbU,↓reduceIte,Nat.reduceLT]
 exact downS_here h
theorem numR_ok {n q k : Nat} (h : numR s p k = .ok (n,q)) : q = p + k ∧ q ≤ s.size := by
 unfold numR at h
 cases hb : rawR s p k with
 | error e => rw [hb] at h; cases h
 | ok a =>
  obtain ⟨b,q'⟩ := a
  rw [hb] at h
  injection h with h; injection h with h1 h2; subst h2
  have := rawR_ok hb
  rw [Int.toNat_natCast] at this
  exact ⟨this.2.2.1,this.2.2.2.1⟩
theorem specRBin (hr : IsR σ r s p .nilIface) (hp : p ≤ s.size) (hs : s.size ≤ 1000000000)
  (hok : ∀ v q,binR s p = .ok (v,q) → ∀ σ',Kept σ [r] σ' [r] → IsR σ' r s q .nilIface → Q (.string v) σ')
  (hbad : ∀ e q,binR s p = .error (e,q) → ∀ σ',Kept σ [r] σ' [r] → RBad σ' r s p e q → Q (.string emp) σ') : CallS E B 108 [.pointer (some ⟨r,0,none⟩)] σ Q := by
 refine call108 (by simp) ?_
 simp only [strip,bodyOf,Tryz.f108,getD_body,keepN,bareOp_mk,List.map_cons,List.map_nil,↓reduceIte,Bool.false_eq_true]
 simp only [↓sbD,sbU,↓reduceIte,Nat.reduceLT,reduceCtorEq]
 refine specRAt hr ?_
 simp only [↓sbD,sbU,↓reduceIte,Nat.reduceLT,reduceCtorEq]
 refine specRU16 hr hp hs (fun n q hn σ1 k1 i1 => ?_) fun e q hn σ1 k1 i1 => ?_
 ·obtain ⟨_,hq⟩ := numR_ok hn
  simp only [↓sbD,sbU,↓reduceIte,Nat.reduceEqDiff,Nat.reduceLT]
  refine specRRaw i1 hq hs (fun v q2 hv σ2 k2 i2 => ?_) fun e q2 hv σ2 k2 i2 => ?_
  ·simp only [↓sbD,sbU,↓reduceIte,Nat.reduceEqDiff,Nat.reduceLT,reduceCtorEq]
   refine specBack i2 ?_
   simp only [↓sbD,sbU,↓reduceIte,Nat.reduceEqDiff,Nat.reduceLT]
   exact downS_here (hok v q2 (by unfold binR; rw [hn]; exact hv) σ2 (k1.trans k2) i2)
  ·obtain ⟨d,z,hd,he,i3⟩ := i2
   simp only [↓sbD,sbU,↓reduceIte,Nat.reduceEqDiff,Nat.reduceLT,reduceCtorEq]
   refine specBackE (q := p) i3 fun σ3 k3 i4 => ?_
   simp only [↓sbD,sbU,↓reduceIte,Nat.reduceEqDiff,Nat.reduceLT]
   exact downS_here (hbad e q2 (by unfold binR; rw [hn]; exact hv) σ3 ((k1.trans k2).trans k3) ⟨d,z,hd,he,i4⟩)
 ·obtain ⟨d,z,hd,he,i3⟩ := i1
  simp only [↓sbD,sbU,↓reduceIte,Nat.reduceEqDiff,Nat.reduceLT]
  refine specRRawE i3 ?_
  simp only [↓sbD,sbU,↓reduceIte,Nat.reduceEqDiff,Nat.reduceLT,reduceCtorEq]
  refine specBackE (q := p) i3 fun σ3 k3 i4 => ?_
  simp only [↓sbD,sbU,↓reduceIte,Nat.reduceEqDiff,Nat.reduceLT]
  exact downS_here (hbad e q (by unfold binR; rw [hn]) σ3 (k1.trans k3) ⟨d,z,hd,he,i4⟩)
theorem specRBinE {u : Nat} {x : Value} (hr : IsR σ r s p (.iface u x)) (h : ∀ σ',Kept σ [r] σ' [r] → IsR σ' r s p (.iface u x) → Q (.string emp) σ') : CallS E B 108 [.pointer (some ⟨r,0,none⟩)] σ Q := by
 refine call108 (by simp) ?_
 simp only [strip,bodyOf,Tryz.f108,getD_body,keepN,bareOp_mk,List.map_cons,List.map_nil,↓reduceIte,Bool.false_eq_true]
 simp only [↓sbD,sbU,↓reduceIte,Nat.reduceLT,reduceCtorEq]
 refine specRAt hr ?_
 simp only [↓sbD,sbU,↓reduceIte,Nat.reduceLT,reduceCtorEq]
 refine specRU16E hr ?_
 simp only [↓sbD,sbU,↓reduceIte,Nat.reduceEqDiff,Nat.reduceLT]
 refine specRRawE hr ?_
 simp only [↓sbD,sbU,↓reduceIte,Nat.reduceEqDiff,Nat.reduceLT,reduceCtorEq]
 refine specBackE (q := p) hr fun σ3 k3 i4 => ?_
 simp only [↓sbD,sbU,↓reduceIte,Nat.reduceEqDiff,Nat.reduceLT]
 exact downS_here (h σ3 k3 i4)
end
section
variable {σ : AHeap} {r p : Nat} {s : ByteArray} {Q : Value → AHeap → Prop}
theorem binR_ok {v : ByteArray} {q : Nat} (h : binR s p = .ok (v,q)) : q ≤ s.size ∧ p ≤ q ∧ v.size ≤ 65535 := by
 unfold binR at h
 cases hn : numR s p 2 with
 | error e => rw [hn] at h; cases h
 | ok a =>
  obtain ⟨n,q'⟩ := a
  rw [hn] at h
  have h1 := rawR_ok h
  have h2 := numR_ok hn
  refine ⟨h1.2.2.2.1,by omega,?_⟩
  have h3 := h1.2.2.2.2
  rw [Int.toNat_natCast] at h3
  unfold numR at hn
  cases hb : rawR s p (2 : Nat) with
  | error e => rw [hb] at hn; cases hn
  | ok a =>
   obtain ⟨b,q2⟩ := a
   rw [hb] at hn
   injection hn with hn; injection hn with h4 h5
   have h6 := (rawR_ok hb).2.2.2.2
   rw [Int.toNat_natCast] at h6
   have h7 := beF_lt b b.size
   rw [h6] at h7 h4
   rw [h3,← h4]
   omega
theorem specDText (hr : IsR σ r s p .nilIface) (hp : p ≤ s.size) (hs : s.size ≤ 100000000)
  (hok : ∀ v q,textR s p = .ok (v,q) → ∀ σ',Kept σ [r] σ' [r] → IsR σ' r s q .nilIface → Q (.string v) σ')
  (hbad : ∀ e q,textR s p = .error (e,q) → ∀ σ',Kept σ [r] σ' [r] → RBad σ' r s p e q → Q (.string emp) σ') : CallS E B 53 [.pointer (some ⟨r,0,none⟩)] σ Q := by
 refine call53 (by simp) ?_
 simp only [strip,bodyOf,Tryz.f53,getD_body,keepN,bareOp_mk,List.map_cons,List.map_nil,↓reduceIte,Bool.false_eq_true]
 simp only [↓sbD,sbU,↓reduceIte,Nat.reduceLT,reduceCtorEq]
 refine specRAt hr ?_
 simp only [↓sbD,sbU,↓reduceIte,Nat.reduceLT,reduceCtorEq]
 refine specRBin hr hp (by omega) (fun v q hv σ1 k1 i1 => ?_) fun e q hv σ1 k1 i1 => ?_
 ·have hb := binR_ok hv
  simp only [↓sbD,sbU,↓reduceIte,Nat.reduceLT,reduceCtorEq]
  refine specROff i1 ?_
  simp only [↓sbD,sbU,↓reduceIte,Nat.reduceEqDiff,Nat.reduceLT]
  refine specCheck (by omega) (fun m hm => ?_) fun k j hm => ?_
  ·simp only [↓sbD,sbU,tyB,↓reduceIte,Nat.reduceEqDiff,Nat.reduceLT,isConst]
   exact downS_here (hok v q (by unfold textR; rw [hv]; simp only [hm]) σ1 k1 i1)
  ·have hj := textF_p hm
   have hk := textF_k hm
   have i1' := i1
   unfold IsR at i1'
   have hw : IntKind.i64.wrap ((p : Int) + 2) = ((p + 2 : Nat) : Int) := by rw [wrap64 ⟨by omega,by omega⟩]; omega
   simp only [↓sbD,sbU,tyB,↓reduceIte,Nat.reduceEqDiff,Nat.reduceLT,reduceCtorEq,isConst,hw]
   refine specDeeper (n := j) (m := p + 2) (by omega) (by omega) ?_
   simp only [↓sbD,sbU,tyB,↓reduceIte,Nat.reduceEqDiff,Nat.reduceLT,Nat.reduceAdd,Nat.reduceLeDiff,reduceCtorEq,splice,i1']
   refine specBackE (q := p) (s := s) (p := q) (AHeap.get_set_same _ _ _) fun σ3 k3 i4 => ?_
   simp only [↓sbD,sbU,↓reduceIte,Nat.reduceLT]
   refine downS_here (hbad (k + 1) (p + 2 + j) (by unfold textR; rw [hv]; simp only [hm]) σ3 ((k1.trans (Kept.set (by simp))).trans k3) ⟨2,_,by omega,ErN.deeper _ _ (ErN.new _ _ ⟨by omega,by omega⟩),i4⟩)
 ·obtain ⟨d,z,hd,he,i3⟩ := i1
  simp only [↓sbD,sbU,↓reduceIte,Nat.reduceLT,reduceCtorEq]
  refine specROffE i3 ?_
  simp only [↓sbD,sbU,↓reduceIte,Nat.reduceLT]
  exact downS_here (hbad e q (by unfold textR; rw [hv]) σ1 k1 ⟨d,z,hd,he,i3⟩)
theorem specDTextE {u : Nat} {x : Value} (hr : IsR σ r s p (.iface u x)) (h : ∀ σ',Kept σ [r] σ' [r] → IsR σ' r s p (.iface u x) → Q (.string emp) σ') : CallS E B 53 [.pointer (some ⟨r,0,none⟩)] σ Q := by
 refine call53 (by simp) ?_
 simp only [strip,bodyOf,Tryz.f53,getD_body,keepN,bareOp_mk,List.map_cons,List.map_nil,↓reduceIte,Bool.false_eq_true]
 simp only [↓sbD,sbU,↓reduceIte,Nat.reduceLT,reduceCtorEq]
 refine specRAt hr ?_
 simp only [↓sbD,sbU,↓reduceIte,Nat.reduceLT,reduceCtorEq]
 refine specRBinE hr fun σ1 k1 i1 => ?_
 simp only [↓sbD,sbU,↓reduceIte,Nat.reduceLT,reduceCtorEq]
 refine specROffE i1 ?_
 simp only [↓sbD,sbU,↓reduceIte,Nat.reduceLT]
 exact downS_here (h σ1 k1 i1)
def mapN (r : Rd Nat) : Rd (Int × ByteArray) := match r with
 | .ok (n,q) => .ok (((n : Int),emp),q)
 | .error e => .error e
def mapS (r : Rd ByteArray) : Rd (Int × ByteArray) := match r with
 | .ok (v,q) => .ok ((0,v),q)
 | .error e => .error e
def rdA (k : Int) (s : ByteArray) (p : Nat) : Rd (Int × ByteArray) := if k = 1 then mapN (numR s p 1) else if k = 2 then mapN (numR s p 2) else if k = 4 then mapN (numR s p 4) else if k = 5 then mapN (varR s p) else if k = 6 then mapS (textR s p) else mapS (binR s p)
def kindOk (k : Int) : Prop := k = 1 ∨ k = 2 ∨ k = 4 ∨ k = 5 ∨ k = 6 ∨ k = 7
end
theorem ext_tail (x y : ByteArray) : (x ++ y).extract x.size (x ++ y).size = y := by
 obtain ⟨x⟩ := x
 obtain ⟨y⟩ := y
 apply ByteArray.ext
 simp only [ByteArray.data_extract,ByteArray.data_append,ByteArray.size,Array.size_append]
 rw [Array.extract_append]
 simp
theorem ext_mid (x m y : ByteArray) : (x ++ m ++ y).extract x.size (x.size + m.size) = m := by
 obtain ⟨x⟩ := x
 obtain ⟨m⟩ := m
 obtain ⟨y⟩ := y
 apply ByteArray.ext
 simp only [ByteArray.data_extract,ByteArray.data_append,ByteArray.size]
 rw [Array.extract_append,Array.extract_append]
 simp
theorem raw_mid (x m y : ByteArray) : rawR (x ++ m ++ y) x.size (m.size : Int) = .ok (m,x.size + m.size) := by
 unfold rawR
 rw [if_neg (by omega),Int.toNat_natCast,if_neg (by simp only [size_app]; omega),ext_mid]
theorem bt_strL {l : List Nat} {i : Nat} (h : i < l.length) (hl : l[i] < 256) : bt (str l) i = l[i] := by
 have := bt_app (s := emp) h hl
 rw [app_emp'] at this; exact this
theorem beF_one {a : Nat} (h : a < 256) : beF (str [a]) 1 = a := by
 simp only [beF,bt_strL (l := [a]) (i := 0) (by simp) h]
 simp
theorem beF_two {a b : Nat} (ha : a < 256) (hb : b < 256) : beF (str [a,b]) 2 = a * 256 + b := by
 simp only [beF,bt_strL (l := [a,b]) (i := 0) (by simp) ha,bt_strL (l := [a,b]) (i := 1) (by simp) hb]
 simp
theorem beF_four {a b c d : Nat} (ha : a < 256) (hb : b < 256) (hc : c < 256) (hd : d < 256) : beF (str [a,b,c,d]) 4 = ((a * 256 + b) * 256 + c) * 256 + d := by
 simp only [beF,bt_strL (l := [a,b,c,d]) (i := 0) (by simp) ha,bt_strL (l := [a,b,c,d]) (i := 1) (by simp) hb,bt_strL (l := [a,b,c,d]) (i := 2) (by simp) hc,bt_strL (l := [a,b,c,d]) (i := 3) (by simp) hd]
 simp
theorem numB_k {n k : Nat} (hk : k = 1 ∨ k = 2 ∨ k = 4) : (numB n k).size = k := by
 rcases hk with rfl | rfl | rfl <;> simp [numB,str_size]
theorem beF_numB {n k : Nat} (hk : k = 1 ∨ k = 2 ∨ k = 4) (hn : n < 2 ^ (8 * k)) : beF (numB n k) k = n := by
 rcases hk with rfl | rfl | rfl
 ·show beF (str [n % 256]) 1 = n
  rw [beF_one (by omega)]
  have : n < 256 := hn
  omega
 ·show beF (str [n / 256 % 256,n % 256]) 2 = n
  rw [beF_two (by omega) (by omega)]
  have : n < 65536 := hn
  omega
 ·show beF (str [n / 16777216 % 256,n / 65536 % 256,n / 256 % 256,n % 256]) 4 = n
  rw [beF_four (by omega) (by omega) (by omega) (by omega)]
  have : n < 4294967296 := hn
  omega
theorem num_mid (x y : ByteArray) {n k : Nat} (hk : k = 1 ∨ k = 2 ∨ k = 4) (hn : n < 2 ^ (8 * k)) : numR (x ++ numB n k ++ y) x.size k = .ok (n,x.size + k) := by
 have h := raw_mid x (numB n k) y
 rw [numB_k hk] at h
 unfold numR
 rw [h]
 simp only [numB_k hk,beF_numB hk hn]
theorem var_mid (x y : ByteArray) {N : Nat} (hN : N < 268435456) : varR (x ++ str (enc N) ++ y) x.size = .ok (N,x.size + vsize N) := by
 unfold varR
 rw [app_assoc,ext_tail,take_enc hN]
theorem bin_mid (x s y : ByteArray) (hs : s.size ≤ 65535) : binR (x ++ (numB s.size 2 ++ s) ++ y) x.size = .ok (s,x.size + (numB s.size 2 ++ s).size) := by
 have h1 := num_mid x (s ++ y) (n := s.size) (k := 2) (by omega) (by omega)
 have h2 := raw_mid (x ++ numB s.size 2) s y
 have e1 : x ++ (numB s.size 2 ++ s) ++ y = x ++ numB s.size 2 ++ (s ++ y) := by simp only [app_assoc]
 have e2 : x ++ (numB s.size 2 ++ s) ++ y = x ++ numB s.size 2 ++ s ++ y := by simp only [app_assoc]
 unfold binR
 rw [e1,h1]
 simp only
 rw [← e1,e2]
 rw [size_app,numB_k (by omega)] at h2
 rw [h2]
 simp only [size_app,numB_k (show (2 : Nat) = 1 ∨ (2 : Nat) = 2 ∨ (2 : Nat) = 4 by omega),Nat.add_assoc]
theorem text_mid (x s y : ByteArray) {m : Nat} (hm : textF s = .inl m) : textR (x ++ (numB s.size 2 ++ s) ++ y) x.size = .ok (s,x.size + (numB s.size 2 ++ s).size) := by
 unfold textR
 rw [bin_mid x s y (textF_inl hm)]
 simp only [hm]
theorem rdA_mid (x y : ByteArray) {a : Act} {m : ByteArray} (hk : kindOk a.k) (h : actW a = .inl m) :
  rdA a.k (x ++ m ++ y) x.size = .ok ((if a.k < 6 then a.n else 0,if a.k < 6 then emp else a.s),x.size + m.size) := by
 obtain ⟨k,n,s⟩ := a
 simp only [actW] at h
 simp only [rdA]
 rcases hk with hk | hk | hk | hk | hk | hk
 all_goals
  simp only at hk
  subst hk
  simp only [Int.reduceEq,if_true,if_false,Int.reduceLT] at h ⊢
 ·unfold numW at h
  split at h
  ·cases h
  ·rename_i hb
   injection h with h; subst h
   obtain ⟨N,rfl⟩ : ∃ N : Nat,n = N := ⟨n.toNat,by omega⟩
   rw [Int.toNat_natCast,num_mid x y (by omega) (by simp at hb ⊢; omega),numB_k (by omega)]
   rfl
 ·unfold numW at h
  split at h
  ·cases h
  ·rename_i hb
   injection h with h; subst h
   obtain ⟨N,rfl⟩ : ∃ N : Nat,n = N := ⟨n.toNat,by omega⟩
   rw [Int.toNat_natCast,num_mid x y (by omega) (by simp at hb ⊢; omega),numB_k (by omega)]
   rfl
 ·unfold numW at h
  split at h
  ·cases h
  ·rename_i hb
   injection h with h; subst h
   obtain ⟨N,rfl⟩ : ∃ N : Nat,n = N := ⟨n.toNat,by omega⟩
   rw [Int.toNat_natCast,num_mid x y (by omega) (by simp at hb ⊢; omega),numB_k (by omega)]
   rfl
 ·unfold varW at h
  split at h
  ·cases h
  ·rename_i hb
   injection h with h; subst h
   obtain ⟨N,rfl⟩ : ∃ N : Nat,n = N := ⟨n.toNat,by omega⟩
   rw [Int.toNat_natCast,var_mid x y (by omega),str_size,enc_len]
   rfl
 ·unfold textW at h
  split at h
  ·cases h
  ·rename_i m' hm
   rw [binW_inl (textF_inl hm)] at h
   injection h with h; subst h
   rw [text_mid x s y hm]
   rfl
 ·unfold binW at h
  split at h
  ·cases h
  ·rename_i hb
   injection h with h; subst h
   rw [bin_mid x s y (by omega)]
   rfl
def catW : List Act → Option ByteArray
 | [] => some emp
 | a :: l => match actW a,catW l with
  | .inl m,some b => some (m ++ b)
  | _,_ => none
theorem emp_app' (a : ByteArray) : emp ++ a = a := by
 apply ByteArray.ext
 simp [ByteArray.data_append,emp]
theorem catW_app : ∀ {l k : List Act} {b c : ByteArray},catW l = some b → catW k = some c → catW (l ++ k) = some (b ++ c)
 | [],k,b,c,h,h' => by simp only [catW,Option.some.injEq] at h; subst h; rw [List.nil_append,emp_app']; exact h'
 | a :: l,k,b,c,h,h' => by
  simp only [catW,List.cons_append] at h ⊢
  split at h
  ·rename_i m d hm hd
   injection h with h; subst h
   rw [hm,catW_app hd h',app_assoc]
  ·cases h
theorem catW_split : ∀ {l k : List Act} {c : ByteArray},catW (l ++ k) = some c → ∃ b d,catW l = some b ∧ catW k = some d ∧ c = b ++ d
 | [],k,c,h => ⟨emp,c,rfl,h,by rw [emp_app']⟩
 | a :: l,k,c,h => by
  simp only [catW,List.cons_append] at h ⊢
  split at h
  ·rename_i m e hm he
   injection h with h; subst h
   obtain ⟨b,d,h1,h2,rfl⟩ := catW_split he
   exact ⟨m ++ b,d,by rw [hm,h1],h2,by rw [app_assoc]⟩
  ·cases h
end Go.Proofs.YtjkhhdknplelcaaGreatDoor.AbsB
