/-
  Parts of a law's proof.
-/
import Derived.Test.YtjkhhdknplelcaaGreatDoorAApqbJ
import Derived.Test.YtjkhhdknplelcaaGreatDoorABxqbJ
namespace Go.Proofs.YtjkhhdknplelcaaGreatDoor.AbsA
open Go AbsYtjkhhdknplelcaaGreatDoor Abs
set_option maxRecDepth 100000
set_option maxHeartbeats 4000000
set_option linter.unusedSimpArgs false
set_option linter.unusedVariables false
def okP : RSt → Bool
 | .ok _ => true
 | .error _ => false
def pbBad (f : Int) : Prop := f < 48 ∨ 63 < f ∨ f / 2 % 4 = 3 ∨ (f / 8 % 2 = 1 ∧ f / 2 % 4 = 0)
instance (f : Int) : Decidable (pbBad f) := by unfold pbBad; infer_instance
set_option maxHeartbeats 8000000
attribute [local irreducible] afterS afterOpS opSK OpsS TrS CodeS condS condW thenS thenQ guardS guardTS outS drawS trSK consS
section
variable {σ : AHeap} {Q : Value → AHeap → Prop} {s : ByteArray}
theorem quoK {σ : AHeap} {f k : Int} {t : Nat} {cs : Bool} (hk : ¬ k = 0) : abin E σ .quo t cs (.int .i64 f) (.int .i64 k) = some (.int .i64 (IntKind.i64.wrap (f.tdiv k))) := by
 show (if k = 0 then none else some (Value.int .i64 (IntKind.i64.wrap (f.tdiv k)))) = _
 rw [if_neg hk]
end
section
variable {σ : AHeap} {Q : Value → AHeap → Prop} {s : ByteArray}
theorem divP {f k : Int} {t : Nat} {cs : Bool} (ha : 0 ≤ f) (hb : f < 1000) (hk : k = 2 ∨ k = 8) : abin E σ .quo t cs (.int .i64 f) (.int .i64 k) = some (.int .i64 (f / k)) := by
 rw [quoK (by omega),Int.tdiv_eq_ediv_of_nonneg ha,wrap64 (by rcases hk with rfl | rfl <;> constructor <;> omega)]
theorem IsYS.cells {r : Nat} {st : RSt} (h : IsYS σ r s st) : ∃ (p : Nat) (k a : Int),σ.get r = .cells [.string s,.int .i64 (p : Int),.int .i64 k,.int .i64 a] true 0 ∧ (∀ q,st = .ok q → p = q ∧ k = 0) ∧ (∀ e,st = .error e → k ≠ 0) := by
 cases st with
 | ok p => exact ⟨p,0,0,h.2,(fun q hq => by injection hq with hq; exact ⟨hq,rfl⟩),(fun e he => by cases he)⟩
 | error e =>
  obtain ⟨k,q⟩ := e
  obtain ⟨h1,p,h2,h3⟩ := h
  exact ⟨p,k,q,h3,(fun q hq => by cases hq),(fun e he => by omega)⟩
end
end Go.Proofs.YtjkhhdknplelcaaGreatDoor.AbsA
namespace Go.Proofs.YtjkhhdknplelcaaGreatDoor.AbsA
open Go AbsYtjkhhdknplelcaaGreatDoor Abs
set_option maxRecDepth 100000
set_option maxHeartbeats 4000000
set_option linter.unusedSimpArgs false
set_option linter.unusedVariables false
def mqtt : ByteArray := ⟨#[77,81,84,84]⟩
def flBad (n : Nat) : Prop := n % 2 = 1 ∨ n / 8 % 4 = 3 ∨ (n / 4 % 2 = 0 ∧ (0 < n / 8 % 4 ∨ n / 32 % 2 = 1))
instance (n : Nat) : Decidable (flBad n) := by unfold flBad; infer_instance
def headK (a : ByteArray × RSt) (b c : Nat × RSt) : Except E3 (Nat × Nat) :=
 if okP a.2 = true ∧ a.1 ≠ mqtt then .error (3,132,0) else if okP b.2 = true ∧ b.1 ≠ 5 then .error (3,132,6) else match c.2 with
 | .error (k,q) => .error (k,129,q)
 | .ok p => if flBad c.1 then .error (2,129,7) else .ok (c.1,p)
def headS (s : ByteArray) : Except E3 (Nat × Nat) := headK (textS s (.ok 0)) (u8S s (textS s (.ok 0)).2) (u8S s (u8S s (textS s (.ok 0)).2).2)
def coW (n : Nat) (t p : ByteArray) (m : List Pr) : Wl := ⟨true,t,p,(n / 8 % 4 : Nat),decide (n / 32 % 2 = 1),m⟩
def wlz : Wl := ⟨false,emp,emp,0,false,[]⟩
def coP (n keep : Nat) (l : List Pr) (cl : ByteArray) (w : Wl) (u pw : ByteArray) : Pk := { pkz with kind := 1,clean := decide (n / 2 % 2 = 1),keep := keep,props := l,client := cl,will := w,hasU := decide (n / 128 = 1),user := u,hasP := decide (n / 64 % 2 = 1),pass := pw }
def userS (n : Nat) (s : ByteArray) (st : RSt) : ByteArray × RSt := if n / 128 = 1 then textS s st else (emp,st)
def passS (n : Nat) (s : ByteArray) (st : RSt) : ByteArray × RSt := if n / 64 % 2 = 1 then binS s st else (emp,st)
def finK (n : Nat) (s : ByteArray) (st : RSt) (g : ByteArray → ByteArray → Pk) : Except E3 Pk := match endS s (passS n s (userS n s st).2).2 with
 | some e => .error e
 | none => .ok (g (userS n s st).1 (passS n s (userS n s st).2).1)
def willK (n : Nat) (s : ByteArray) (st : RSt) (g : Wl → ByteArray → ByteArray → Pk) (r : Except E3 Pk) : Prop :=
 if n / 4 % 2 = 1 then ∃ y,ReadPS 16 s st y ∧ match y with
  | .error e => r = .error e
  | .ok (m,q) => r = finK n s (binS s (textS s (.ok q)).2).2 (g (coW n (textS s (.ok q)).1 (binS s (textS s (.ok q)).2).1 m))
 else r = finK n s st (g wlz)
def DecK (f : Int) (s : ByteArray) (r : Except E3 Pk) : Prop :=
 if f ≠ 16 then r = .error (2,129,0) else match headS s with
 | .error e => r = .error e
 | .ok (n,p) => ∃ x,ReadPS 1 s (u16S s (.ok p)).2 x ∧ match x with
  | .error e => r = .error e
  | .ok (l,q) => willK n s (textS s (.ok q)).2 (coP n (u16S s (.ok p)).1 l (textS s (.ok q)).1) r
theorem willK.det {n : Nat} {s : ByteArray} {st : RSt} {g : Wl → ByteArray → ByteArray → Pk} {r r' : Except E3 Pk} (h : willK n s st g r) (h' : willK n s st g r') : r = r' := by
 unfold willK at h h'
 split at h
 ·rename_i h1
  rw [if_pos h1] at h'
  obtain ⟨x,h3,h5⟩ := h
  obtain ⟨y,h4,h6⟩ := h'
  obtain rfl := h3.det h4
  cases x with
  | error e => exact h5.trans h6.symm
  | ok a => exact h5.trans h6.symm
 ·rename_i h1
  rw [if_neg h1] at h'
  exact h.trans h'.symm
theorem DecK.det {f : Int} {s : ByteArray} {r r' : Except E3 Pk} (h : DecK f s r) (h' : DecK f s r') : r = r' := by
 unfold DecK at h h'
 split at h
 ·rename_i h1
  rw [if_pos h1] at h'
  exact h.trans h'.symm
 ·rename_i h1
  rw [if_neg h1] at h'
  cases hh : headS s with
  | error e => rw [hh] at h h'; exact h.trans h'.symm
  | ok a =>
   obtain ⟨n,p⟩ := a
   rw [hh] at h h'
   obtain ⟨x,h3,h5⟩ := h
   obtain ⟨y,h4,h6⟩ := h'
   obtain rfl := h3.det h4
   cases x with
   | error e => exact h5.trans h6.symm
   | ok a => exact willK.det h5 h6
def bI (b : Bool) (n : Int) : Int := if b then n else 0
def flagsI (p : Pk) : Int := bI p.clean 2 + bI p.hasU 128 + bI p.hasP 64 + (if p.will.has then 4 + 8 * p.will.qos + bI p.will.ret 32 else 0)
def actsK (p : Pk) (s : ByteArray × ByteArray) : List Act :=
 [⟨6,0,mqtt⟩,⟨1,5,emp⟩,⟨1,flagsI p,emp⟩,⟨2,p.keep,emp⟩,⟨8,0,s.1⟩,⟨6,0,p.client⟩] ++ ((if p.will.has then [⟨8,0,s.2⟩,⟨6,0,p.will.topic⟩,⟨7,0,p.will.pay⟩] else []) ++ ((if p.hasU then [⟨6,0,p.user⟩] else []) ++ (if p.hasP then [⟨7,0,p.pass⟩] else [])))
def preK (p : Pk) : Option E3 := if p.will.has = true ∧ (p.will.qos < 0 ∨ 3 < p.will.qos) then some (2,129,0) else none
def propsK (p : Pk) : Except E3 (ByteArray × ByteArray) := match encP 1 p.props with
 | .error e => .error e
 | .ok a => if p.will.has then match encP 16 p.will.props with
  | .error e => .error e
  | .ok b => .ok (a,b) else .ok (a,emp)
abbrev EncK (p : Pk) (r : Except E3 (Int × ByteArray)) : Prop := EncG (preK p) (propsK p) 16 (DecK 16) (actsK p) r
theorem EncK.det {p : Pk} {r r' : Except E3 (Int × ByteArray)} (h : EncK p r) (h' : EncK p r') : r = r' := EncG.det (D := DecK 16) (fun _ _ _ h1 h2 => h1.det h2) h h'
def opt (b : Bool) (m : ByteArray) : ByteArray := if b then m else emp
def willB (n : Nat) (c mt mp : ByteArray) : ByteArray := opt (decide (n / 4 % 2 = 1)) (c ++ (mt ++ mp))
def coAll (n keep : Nat) (c1 mc c2 mt mwp mu mp : ByteArray) : ByteArray := (numB 4 2 ++ mqtt) ++ (numB 5 1 ++ (numB n 1 ++ (numB keep 2 ++ (c1 ++ (mc ++ (willB n c2 mt mwp ++ (opt (decide (n / 128 = 1)) mu ++ (opt (decide (n / 64 % 2 = 1)) mp ++ emp))))))))
attribute [local irreducible] DecK coAll numB
theorem headS_ok {s : ByteArray} {n p : Nat} (h : headS s = .ok (n,p)) : n < 256 ∧ p ≤ s.size ∧ ¬ flBad n := by
 unfold headS headK at h
 split at h
 ·cases h
 split at h
 ·cases h
 rcases g : u8S s (u8S s (textS s (.ok 0)).2).2 with ⟨m,st⟩
 rw [g] at h
 simp only at h
 cases st with
 | error e => obtain ⟨k,q⟩ := e; cases h
 | ok q =>
  simp only at h
  split at h
  ·cases h
  ·rename_i hb
   simp only [Except.ok.injEq,Prod.mk.injEq] at h
   obtain ⟨rfl,rfl⟩ := h
   exact ⟨(okS_u8 g).1,(okS_u8 g).2.1,hb⟩
end Go.Proofs.YtjkhhdknplelcaaGreatDoor.AbsA
namespace Go.Proofs.YtjkhhdknplelcaaGreatDoor.AbsA
open Go AbsYtjkhhdknplelcaaGreatDoor Abs
set_option maxRecDepth 100000
set_option maxHeartbeats 8000000
set_option linter.unusedSimpArgs false
set_option linter.unusedVariables false
attribute [local irreducible] afterS afterOpS opSK OpsS TrS CodeS condS condW thenS thenQ guardS guardTS outS drawS trSK consS
section
variable {σ : AHeap} {Q : Value → AHeap → Prop} {s : ByteArray}
theorem specFlag {b : Bool} {n : Int} (h : Q (.int .i64 (bI b n)) σ) : CallS E B 116 [.bool b,.int .i64 n] σ Q := by
 unfold bI at h
 refine call116 (by simp) ?_
 simp only [strip,bodyOf,Tryz.f116,getD_body,keepN,bareOp_mk,List.map_cons,List.map_nil,↓reduceIte,Bool.false_eq_true]
 cases b with
 | true =>
  simp only [↓sbD,sbU,↓reduceIte,Nat.reduceEqDiff,Nat.reduceLT,reduceCtorEq]
  exact downS_here h
 | false =>
  simp only [↓sbD,sbU,↓reduceIte,Nat.reduceLT,reduceCtorEq]
  exact downS_here h
theorem or_flags {p : Pk} (hq : p.will.has = true → ¬ (p.will.qos < 0 ∨ 3 < p.will.qos)) : ∃ F0 F1 F2 F3 : Int,aint .or .i64 (bI p.clean 2) (bI p.hasU 128) = some (.int .i64 F0) ∧ aint .or .i64 F0 (bI p.hasP 64) = some (.int .i64 F1) ∧
  (p.will.has = true → IntKind.i64.wrap (p.will.qos * 8) = p.will.qos * 8 ∧ aint .or .i64 4 (p.will.qos * 8) = some (.int .i64 F2) ∧ aint .or .i64 F2 (bI p.will.ret 32) = some (.int .i64 F3) ∧ aint .or .i64 F1 F3 = some (.int .i64 (flagsI p))) ∧ (p.will.has = false → flagsI p = F1) := by
 refine ⟨bI p.clean 2 + bI p.hasU 128,bI p.clean 2 + bI p.hasU 128 + bI p.hasP 64,4 + 8 * p.will.qos,4 + 8 * p.will.qos + bI p.will.ret 32,?_,?_,fun hw => ?_,fun hw => ?_⟩
 ·cases p.clean <;> cases p.hasU <;> kernel_rfl
 ·cases p.clean <;> cases p.hasU <;> cases p.hasP <;> kernel_rfl
 ·have hq' := hq hw
  unfold flagsI
  rw [hw]
  generalize p.will.qos = q at *
  refine ⟨by rw [wrap64 ⟨by omega,by omega⟩],?_,?_,?_⟩
  ·obtain rfl | rfl | rfl | rfl : q = 0 ∨ q = 1 ∨ q = 2 ∨ q = 3 := by omega
   all_goals kernel_rfl
  ·obtain rfl | rfl | rfl | rfl : q = 0 ∨ q = 1 ∨ q = 2 ∨ q = 3 := by omega
   all_goals (cases p.will.ret <;> kernel_rfl)
  ·obtain rfl | rfl | rfl | rfl : q = 0 ∨ q = 1 ∨ q = 2 ∨ q = 3 := by omega
   all_goals (cases p.clean <;> cases p.hasU <;> cases p.hasP <;> cases p.will.ret <;> kernel_rfl)
 ·unfold flagsI
  rw [hw]
  simp
theorem specFlags {p : Pk} {v : Value} (hp : PkV p v) (hq : p.will.has = true → ¬ (p.will.qos < 0 ∨ 3 < p.will.qos)) (h : Q (.int .i64 (flagsI p)) σ) : CallS E B 67 [v] σ Q := by
 obtain ⟨vp,vw,vs,vf,vc,d1,d2,d3,d4,d5,rfl⟩ := hp
 obtain ⟨up,uw,us,uf,uc,d1,d2,d3,d4,d5,-,hbx⟩ := boxPk d1 d2 d3 d4 d5
 obtain ⟨F0,F1,F2,F3,o1,o2,o3,o4⟩ := or_flags hq
 simp only [pkC] at hbx ⊢
 have hc : p.will.has = false ∨ p.will.has = true := by cases p.will.has <;> simp
 rcases hc with hw | hw <;> simp only [hw] at hbx ⊢
 ·rw [← o4 hw] at o2
  refine call67 (by simp) ?_
  simp only [strip,bodyOf,Tryz.f67,getD_body,keepN,bareOp_mk,lessOp_mk,List.map_cons,List.map_nil,↓reduceIte,Nat.reduceEqDiff,Bool.false_eq_true]
  simp (disch := first | assumption | simp) only [↓sbD,sbU,tyB,↓reduceIte,Nat.reduceEqDiff,Nat.reduceLT,reduceCtorEq,hbx]
  refine specFlag ?_
  simp (disch := first | assumption | simp) only [↓sbD,sbU,tyB,↓reduceIte,Nat.reduceEqDiff,Nat.reduceLT,reduceCtorEq]
  refine specFlag ?_
  simp (disch := first | assumption | simp) only [↓sbD,sbU,tyB,Bool.or_self,↓reduceIte,Nat.reduceEqDiff,Nat.reduceLT,reduceCtorEq,isConst,o1]
  refine specFlag ?_
  simp (disch := first | assumption | simp) only [↓sbD,sbU,Bool.or_self,↓reduceIte,Nat.reduceEqDiff,Nat.reduceLT,isConst,o2]
  refine drawS_l (fl := [(4,2),(8,2),(8,5)]) (by kernel_rfl) ?_ ?_
  rotate_left; simp only [lastP_cc,lastP_one]; rotate_left
  ·simp only [List.all_cons,List.all_nil,floatS,List.getElem?_cons_succ,List.getElem?_cons_zero,List.getElem?_toArray,Region.wanted,Bool.not_true,Bool.or_true,reads,looksWeak,aev_tmp,upd_at,↓reduceIte,Nat.reduceLT,Nat.reduceAdd,blkOf,oeq_refl,Bool.and_true,Bool.and_self,Bool.false_eq_true]
   try rfl
  simp (disch := first | assumption | simp) only [↓sbD,sbU,tyB,↓reduceIte,Nat.reduceEqDiff,Nat.reduceLT,reduceCtorEq]
  exact downS_here h
 ·obtain ⟨e1,e2,e3,e4⟩ := o3 hw
  refine call67 (by simp) ?_
  simp only [strip,bodyOf,Tryz.f67,getD_body,keepN,bareOp_mk,lessOp_mk,List.map_cons,List.map_nil,↓reduceIte,Nat.reduceEqDiff,Bool.false_eq_true]
  simp (disch := first | assumption | simp) only [↓sbD,sbU,tyB,↓reduceIte,Nat.reduceEqDiff,Nat.reduceLT,reduceCtorEq,hbx]
  refine specFlag ?_
  simp (disch := first | assumption | simp) only [↓sbD,sbU,tyB,↓reduceIte,Nat.reduceEqDiff,Nat.reduceLT,reduceCtorEq]
  refine specFlag ?_
  simp (disch := first | assumption | simp) only [↓sbD,sbU,tyB,Bool.or_self,↓reduceIte,Nat.reduceEqDiff,Nat.reduceLT,reduceCtorEq,isConst,o1]
  refine specFlag ?_
  simp (disch := first | assumption | simp) only [↓sbD,sbU,Bool.or_self,↓reduceIte,Nat.reduceEqDiff,Nat.reduceLT,isConst,o2]
  refine drawS_l (fl := [(4,2),(8,2),(8,5)]) (by kernel_rfl) ?_ ?_
  rotate_left; simp only [lastP_cc,lastP_one]; rotate_left
  ·simp only [List.all_cons,List.all_nil,floatS,List.getElem?_cons_succ,List.getElem?_cons_zero,List.getElem?_toArray,Region.wanted,Bool.not_true,Bool.or_true,reads,looksWeak,aev_tmp,upd_at,↓reduceIte,Nat.reduceLT,Nat.reduceAdd,blkOf,oeq_refl,Bool.and_true,Bool.and_self,Bool.false_eq_true]
   try rfl
  simp (disch := first | assumption | simp) only [↓sbD,sbU,tyB,↓reduceIte,Nat.reduceEqDiff,Nat.reduceLT,reduceCtorEq,isConst,e1,e2]
  refine specFlag ?_
  simp (disch := first | assumption | simp) only [↓sbD,sbU,Bool.or_self,↓reduceIte,Nat.reduceEqDiff,Nat.reduceLT,isConst,e3,e4]
  refine drawS_l (fl := [(3,9)]) (by kernel_rfl) ?_ ?_
  rotate_left; simp only [lastP_cc,lastP_one]; rotate_left
  ·simp only [List.all_cons,List.all_nil,floatS,List.getElem?_cons_succ,List.getElem?_cons_zero,List.getElem?_toArray,Region.wanted,Bool.not_true,Bool.or_true,reads,looksWeak,aev_tmp,upd_at,↓reduceIte,Nat.reduceLT,Nat.reduceAdd,blkOf,oeq_refl,Bool.and_true,Bool.and_self,Bool.false_eq_true]
   try rfl
  simp (disch := first | assumption | simp) only [↓sbD,sbU,↓reduceIte,Nat.reduceLT]
  exact downS_here h
theorem specLast {w : Nat} {fp : List Nat} {r : ByteArray ⊕ (Nat × Nat)} {l : Wl} {vw : Value} {c : ByteArray} {n : Nat} (hw : WRun σ w r fp) (d : DL propC 4 vw l.props) (hz : leW r n) (hn : n ≤ 800000) (hc : c.size ≤ 700000) (ht : l.topic.size ≤ 2100) (hpy : l.pay.size ≤ 2100)
  (h : ∀ σ' fp',Kept σ fp σ' fp' → WRun σ' w (stepW r (if l.has then [⟨8,0,c⟩,⟨6,0,l.topic⟩,⟨7,0,l.pay⟩] else [])) fp' → leW (stepW r (if l.has then [⟨8,0,c⟩,⟨6,0,l.topic⟩,⟨7,0,l.pay⟩] else [])) (n + c.size + 5000) → Q unit σ') :
  CallS E B 68 [.pointer (some ⟨w,0,none⟩),.agg ⟨wlC l vw⟩,.string c] σ Q := by
 obtain ⟨uw,d',hbx⟩ := boxWl d
 simp only [wlC] at hbx ⊢
 have hc0 : l.has = false ∨ l.has = true := by cases l.has <;> simp
 rcases hc0 with hh | hh <;> simp only [hh] at hbx h ⊢
 ·refine call68 (by simp) ?_
  simp only [strip,bodyOf,Tryz.f68,getD_body,keepN,bareOp_mk,List.map_cons,List.map_nil,↓reduceIte,Bool.false_eq_true]
  simp only [↓sbD,sbU,tyB,↓reduceIte,Nat.reduceLT,reduceCtorEq,hbx]
  have := h σ fp (Kept.refl _ _)
  simp only [Bool.false_eq_true,if_false,stepW_nil] at this
  exact downS_here (this hw fun b hb => by have := hz b hb; omega)
 ·simp only [if_true] at h
  refine call68 (by simp) ?_
  simp only [strip,bodyOf,Tryz.f68,getD_body,keepN,bareOp_mk,List.map_cons,List.map_nil,↓reduceIte,Bool.false_eq_true]
  simp only [↓sbD,sbU,tyB,↓reduceIte,Nat.reduceEqDiff,Nat.reduceLT,reduceCtorEq,hbx]
  refine specRawR (n := 0) hw (fun b hb => by have := hz b hb; omega) (by omega) fun σ1 fp1 k1 w1 => ?_
  have z1 := leW_step (a := ⟨8,0,c⟩) hz
  simp only at z1
  simp only [↓sbD,sbU,tyB,↓reduceIte,Nat.reduceEqDiff,Nat.reduceLT,reduceCtorEq]
  refine specTextR (n := 0) w1 (fun b hb => by have := z1 b hb; omega) (by omega) fun σ2 fp2 k2 w2 => ?_
  have z2 := leW_step (a := ⟨6,0,l.topic⟩) z1
  simp only at z2
  simp only [↓sbD,sbU,tyB,↓reduceIte,Nat.reduceEqDiff,Nat.reduceLT,reduceCtorEq]
  refine specBinR (n := 0) w2 (fun b hb => by have := z2 b hb; omega) (by omega) fun σ3 fp3 k3 w3 => ?_
  have z3 := leW_step (a := ⟨7,0,l.pay⟩) z2
  simp only at z3
  simp only [↓sbD,sbU]
  have hR : stepW (stepW (stepW r [⟨8,0,c⟩]) [⟨6,0,l.topic⟩]) [⟨7,0,l.pay⟩] = stepW r [⟨8,0,c⟩,⟨6,0,l.topic⟩,⟨7,0,l.pay⟩] := by rw [stepW_app,stepW_app]; rfl
  rw [hR] at w3 z3
  exact downS_here (h _ _ (k1.trans (k2.trans k3)) w3 fun b hb => by have := z3 b hb; omega)
theorem specParts {p : Pk} {v : Value} (hp : PkV p v) (hm : bigPk p)
  (hok : ∀ a b,propsK p = .ok (a,b) → a.size ≤ 700000 → b.size ≤ 700000 → Q (.tuple #[.string a,.string b,.nilIface]) σ)
  (hbad : ∀ (k r a d : Nat) z c1 c2,propsK p = .error (k,r,a) → d ≤ 2 → ErN d (fv r a z) k → Q (.tuple #[.string c1,.string c2,fv r a z]) σ) : CallS E B 65 [v] σ Q := by
 obtain ⟨vp,vw,vs,vf,vc,d1,d2,d3,d4,d5,rfl⟩ := hp
 obtain ⟨up,uw,us,uf,uc,d1,d2,d3,d4,d5,-,hbx⟩ := boxPk d1 d2 d3 d4 d5
 simp only [pkC] at hbx ⊢
 unfold propsK at hok hbad
 have hc : p.will.has = false ∨ p.will.has = true := by cases p.will.has <;> simp
 rcases hc with hw | hw <;> simp only [hw] at hbx hok hbad ⊢
 all_goals
  refine call65 (by simp) ?_
  simp only [strip,bodyOf,Tryz.f65,getD_body,keepN,bareOp_mk,List.map_cons,List.map_nil,↓reduceIte,Bool.false_eq_true]
  simp only [↓sbD,sbU,tyB,↓reduceIte,Nat.reduceEqDiff,Nat.reduceLT,reduceCtorEq,hbx]
  refine specPEncode d1 hm.props (fun c hce hcz => ?_) fun k r a d z hce hd he => ?_
  rotate_left
  ·simp only [hce] at hbad
   simp only [↓sbD,sbU,tyB,↓reduceIte,Nat.reduceEqDiff,Nat.reduceLT,isConst]
   exact downS_here (hbad k r a d z _ _ rfl hd he)
  simp only [hce] at hok hbad
  simp only [↓sbD,sbU,tyB,↓reduceIte,Nat.reduceEqDiff,Nat.reduceLT,reduceCtorEq,isConst,not_bool]
 ·simp only [Bool.false_eq_true,if_false] at hok
  exact downS_here (hok c emp rfl hcz (Nat.zero_le _))
 ·simp only [if_true] at hok hbad
  refine specPEncode d2 hm.wprops (fun c2 hce2 hcz2 => ?_) fun k r a d z hce2 hd he => ?_
  ·simp only [hce2] at hok
   simp only [↓sbD,sbU,↓reduceIte,Nat.reduceEqDiff,Nat.reduceLT]
   exact downS_here (hok c c2 rfl hcz hcz2)
  ·simp only [hce2] at hbad
   simp only [↓sbD,sbU,↓reduceIte,Nat.reduceEqDiff,Nat.reduceLT]
   exact downS_here (hbad k r a d z _ _ rfl hd he)
theorem u8S_lt {s : ByteArray} {st : RSt} {n : Nat} {st' : RSt} (h : u8S s st = (n,st')) : n < 256 ∧ (∀ e,st' = .error e → n = 0) := by
 cases st' with
 | ok p => exact ⟨(okS_u8 h).1,fun e he => by cases he⟩
 | error e =>
  have : n = 0 := by
   unfold u8S stp at h
   repeat' split at h
   all_goals first
    | (simp only [Prod.mk.injEq] at h; exact h.1.symm)
    | (simp only [Prod.mk.injEq] at h; cases h.2)
    | cases h
  subst this
  exact ⟨by omega,fun _ _ => rfl⟩
theorem bitsK : ∀ n,n < 256 → n &&& 1 = n % 2 ∧ n &&& 24 = 8 * (n / 8 % 4) ∧ n &&& 4 = 4 * (n / 4 % 2) ∧ n &&& 56 = 8 * (n / 8 % 4) + 32 * (n / 32 % 2) ∧ n &&& 2 = 2 * (n / 2 % 2) ∧ n &&& 128 = 128 * (n / 128) ∧ n &&& 64 = 64 * (n / 64 % 2) ∧ n &&& 32 = 32 * (n / 32 % 2) := by decide +kernel
theorem specKoHead {r : Nat} (hr : IsRS σ r s (.ok 0)) (hs : s.size ≤ 100000000)
  (hok : ∀ n p,headS s = .ok (n,p) → ∀ σ',Kept σ [r] σ' [r] → IsRS σ' r s (.ok p) → Q (.tuple #[.int .i64 (n : Int),.nilIface]) σ')
  (hbad : ∀ k rr a : Nat,headS s = .error (k,rr,a) → ∀ σ' d z n,Kept σ [r] σ' [r] → d ≤ 3 → ErN d (fv rr a z) k → Q (.tuple #[.int .i64 n,fv rr a z]) σ') :
  CallS E B 70 [.pointer (some ⟨r,0,none⟩)] σ Q := by
 unfold headS at hok hbad
 refine call70 (by simp) ?_
 simp only [strip,bodyOf,Tryz.f70,getD_body,keepN,bareOp_mk,List.map_cons,List.map_nil,↓reduceIte,Bool.false_eq_true]
 simp (disch := first | assumption | simp) only [↓sbD,sbU,↓reduceIte,Nat.reduceLT,reduceCtorEq]
 refine specSText hr hs fun σ1 k1 r1 => ?_
 obtain ⟨t,st1,hT⟩ : ∃ t st1,textS s (.ok 0) = (t,st1) := ⟨_,_,rfl⟩
 simp only [hT] at hok hbad r1 ⊢
 obtain ⟨v,st2,hV⟩ : ∃ v st2,u8S s st1 = (v,st2) := ⟨_,_,rfl⟩
 simp only [hV] at hok hbad
 obtain ⟨n,st3,hN⟩ : ∃ n st3,u8S s st2 = (n,st3) := ⟨_,_,rfl⟩
 simp only [hN] at hok hbad
 unfold headK at hok hbad
 simp only at hok hbad
 simp (disch := first | assumption | simp) only [↓sbD,sbU,↓reduceIte,Nat.reduceLT,reduceCtorEq]
 refine specSErr r1 (fun p hp => ?_) fun k q d z hp hd he => ?_
 focus
  by_cases h1 : t = ⟨#[77,81,84,84]⟩
  rotate_left
  ·simp only [if_pos (show okP st1 = true ∧ t ≠ mqtt from ⟨by rw [hp]; rfl,h1⟩)] at hbad
   simp (disch := first | assumption | simp) only [↓sbD,sbU,tyB,↓reduceIte,Nat.reduceEqDiff,Nat.reduceLT,isConst,h1,gk3]
   refine specNew (n := 3) ⟨by omega,by omega⟩ ?_
   simp (disch := first | assumption | simp) only [↓sbD,sbU,↓reduceIte,Nat.reduceEqDiff,Nat.reduceLT]
   exact downS_here (hbad 3 132 0 rfl _ 1 _ 0 k1 (by omega) (ErN.new _ _ ⟨by omega,by omega⟩))
  have hne : ¬ (okP st1 = true ∧ t ≠ mqtt) := fun h => h.2 h1
  simp only [if_neg hne] at hok hbad
  simp (disch := first | assumption | simp) only [↓sbD,sbU,tyB,decide_false,↓reduceIte,Nat.reduceEqDiff,Nat.reduceLT,reduceCtorEq,isConst,h1]
 rotate_left
 focus
  have hne : ¬ (okP st1 = true ∧ t ≠ mqtt) := fun h => by rw [hp] at h; cases h.1
  simp only [if_neg hne] at hok hbad
  simp (disch := first | assumption | simp) only [↓sbD,sbU,tyB,↓reduceIte,Nat.reduceEqDiff,Nat.reduceLT,reduceCtorEq,isConst]
 all_goals
  clear hne hp
  refine specSU8 r1 hs fun σ2 k2 r2 => ?_
  simp only [hV] at r2 ⊢
  simp (disch := first | assumption | simp) only [↓sbD,sbU,↓reduceIte,Nat.reduceLT,reduceCtorEq]
  refine specSErr r2 (fun p hp => ?_) fun k q d z hp hd he => ?_
  focus
   by_cases h2 : v = 5
   rotate_left
   ·simp only [if_pos (show okP st2 = true ∧ v ≠ 5 from ⟨by rw [hp]; rfl,h2⟩)] at hbad
    have h2' : ¬ (v : Int) = 5 := by omega
    simp (disch := first | assumption | simp) only [↓sbD,sbU,tyB,↓reduceIte,Nat.reduceEqDiff,Nat.reduceLT,isConst,h2',gk3]
    refine specNew (n := 3) ⟨by omega,by omega⟩ ?_
    simp (disch := first | assumption | simp) only [↓sbD,sbU,↓reduceIte,Nat.reduceEqDiff,Nat.reduceLT]
    exact downS_here (hbad 3 132 6 rfl _ 1 _ 0 (k1.trans k2) (by omega) (ErN.new _ _ ⟨by omega,by omega⟩))
   have hne : ¬ (okP st2 = true ∧ v ≠ 5) := fun h => h.2 h2
   simp only [if_neg hne] at hok hbad
   have h2' : (v : Int) = 5 := by omega
   simp (disch := first | assumption | simp) only [↓sbD,sbU,tyB,decide_false,↓reduceIte,Nat.reduceEqDiff,Nat.reduceLT,reduceCtorEq,isConst,h2']
  rotate_left
  focus
   have hne : ¬ (okP st2 = true ∧ v ≠ 5) := fun h => by rw [hp] at h; cases h.1
   simp only [if_neg hne] at hok hbad
   simp (disch := first | assumption | simp) only [↓sbD,sbU,tyB,↓reduceIte,Nat.reduceEqDiff,Nat.reduceLT,reduceCtorEq,isConst]
  all_goals
   clear hne hp
   refine specSU8 r2 hs fun σ3 k3 r3 => ?_
   simp only [hN] at r3 ⊢
   have K3 := k1.trans (k2.trans k3)
   obtain ⟨hn,hn0⟩ := u8S_lt hN
   have andB : ∀ m : Nat,m < 256 → aint .and .i64 (n : Int) ((m : Nat) : Int) = some (.int .i64 ((n &&& m : Nat) : Int)) := fun m hm => and_nat (by omega) (by omega)
   obtain ⟨b1,b24,b4,b56,b2,b128,b64,b32⟩ := bitsK n hn
   have a1 : aint .and .i64 (n : Int) 1 = some (.int .i64 ((n &&& 1 : Nat) : Int)) := andB 1 (by omega)
   rw [b1] at a1
   have a24 : aint .and .i64 (n : Int) 24 = some (.int .i64 ((n &&& 24 : Nat) : Int)) := andB 24 (by omega)
   rw [b24] at a24
   have a4 : aint .and .i64 (n : Int) 4 = some (.int .i64 ((n &&& 4 : Nat) : Int)) := andB 4 (by omega)
   rw [b4] at a4
   have a56 : aint .and .i64 (n : Int) 56 = some (.int .i64 ((n &&& 56 : Nat) : Int)) := andB 56 (by omega)
   rw [b56] at a56
   cases hst : st3 with
   | error e =>
    obtain ⟨k,q⟩ := e
    have h0 := hn0 _ hst
    rw [hst] at hbad r3
    simp only at hbad
    have c1 : aint .and .i64 (n : Int) 1 = some (.int .i64 0) := by rw [a1,h0]; rfl
    have c24 : aint .and .i64 (n : Int) 24 = some (.int .i64 0) := by rw [a24,h0]; rfl
    have c4 : aint .and .i64 (n : Int) 4 = some (.int .i64 0) := by rw [a4,h0]; rfl
    have c56 : aint .and .i64 (n : Int) 56 = some (.int .i64 0) := by rw [a56,h0]; rfl
    simp (disch := first | assumption | simp) only [↓sbD,sbU,Int.reduceEq,decide_false,↓reduceIte,Nat.reduceEqDiff,Nat.reduceLT,reduceCtorEq,isConst,c1,c24,c4,c56]
    refine specSErr r3 (fun p hp => by cases hp) fun k q d z hp hd he => ?_
    simp only [Except.error.injEq,Prod.mk.injEq] at hp
    obtain ⟨rfl,rfl⟩ := hp
    simp (disch := first | assumption | simp) only [↓sbD,sbU,tyB,↓reduceIte,Nat.reduceEqDiff,Nat.reduceLT,reduceCtorEq,isConst]
    refine specSErr r3 (fun p hp => by cases hp) fun k' q' d z hp hd he => ?_
    simp only [Except.error.injEq,Prod.mk.injEq] at hp
    obtain ⟨rfl,rfl⟩ := hp
    simp (disch := first | assumption | simp) only [↓sbD,sbU,↓reduceIte,Nat.reduceEqDiff,Nat.reduceLT]
    exact downS_here (hbad _ 129 _ rfl _ d z _ K3 (by omega) he)
   | ok p =>
    rw [hst] at hok hbad r3
    simp only at hok hbad
    have CS : ∀ {P : Prop},(flBad n → n % 2 = 1 → P) → (flBad n → ¬ n % 2 = 1 → n / 8 % 4 = 3 → P) → (flBad n → ¬ n % 2 = 1 → ¬ n / 8 % 4 = 3 → n / 4 % 2 = 0 → ¬ 8 * (n / 8 % 4) + 32 * (n / 32 % 2) = 0 → P) → (¬ flBad n → ¬ n % 2 = 1 → ¬ n / 8 % 4 = 3 → n / 4 % 2 = 0 → 8 * (n / 8 % 4) + 32 * (n / 32 % 2) = 0 → P) → (¬ flBad n → ¬ n % 2 = 1 → ¬ n / 8 % 4 = 3 → ¬ n / 4 % 2 = 0 → P) → P := fun a b c d e => by
     unfold flBad at a b c d e
     by_cases h1 : n % 2 = 1
     ·exact a (.inl h1) h1
     by_cases h2 : n / 8 % 4 = 3
     ·exact b (.inr (.inl h2)) h1 h2
     by_cases h3 : n / 4 % 2 = 0
     ·by_cases h4 : 8 * (n / 8 % 4) + 32 * (n / 32 % 2) = 0
      ·exact d (by omega) h1 h2 h3 h4
      ·exact c (by omega) h1 h2 h3 h4
     ·exact e (by omega) h1 h2 h3
    refine CS (fun hb h1 => ?_) (fun hb h1 h2 => ?_) (fun hb h1 h2 h3 h4 => ?_) (fun hb h1 h2 h3 h4 => ?_) fun hb h1 h2 h3 => ?_
    focus
     have c1 : aint .and .i64 (n : Int) 1 = some (.int .i64 1) := by rw [a1,h1]; rfl
     simp (disch := first | assumption | simp) only [↓sbD,sbU,Int.reduceEq,↓reduceIte,Nat.reduceEqDiff,Nat.reduceLT,reduceCtorEq,isConst,c1]
    rotate_left
    focus
     have c1 : aint .and .i64 (n : Int) 1 = some (.int .i64 0) := by rw [a1,show n % 2 = 0 by omega]; rfl
     have c24 : aint .and .i64 (n : Int) 24 = some (.int .i64 24) := by rw [a24,h2]; rfl
     simp (disch := first | assumption | simp) only [↓sbD,sbU,decide_false,↓reduceIte,Nat.reduceEqDiff,Nat.reduceLT,reduceCtorEq,isConst,c1,c24]
    rotate_left
    focus
     have c1 : aint .and .i64 (n : Int) 1 = some (.int .i64 0) := by rw [a1,show n % 2 = 0 by omega]; rfl
     have g2 : ¬ ((8 * (n / 8 % 4) : Nat) : Int) = 24 := by omega
     have c4 : aint .and .i64 (n : Int) 4 = some (.int .i64 0) := by rw [a4,h3]; rfl
     have g4 : ¬ ((8 * (n / 8 % 4) + 32 * (n / 32 % 2) : Nat) : Int) = 0 := by omega
     simp (disch := first | assumption | simp) only [↓sbD,sbU,decide_false,↓reduceIte,Nat.reduceEqDiff,Nat.reduceLT,reduceCtorEq,isConst,c1,a24,g2,c4,a56,g4]
    rotate_left
    focus
     have c1 : aint .and .i64 (n : Int) 1 = some (.int .i64 0) := by rw [a1,show n % 2 = 0 by omega]; rfl
     have g2 : ¬ ((8 * (n / 8 % 4) : Nat) : Int) = 24 := by omega
     have c4 : aint .and .i64 (n : Int) 4 = some (.int .i64 0) := by rw [a4,h3]; rfl
     have c56 : aint .and .i64 (n : Int) 56 = some (.int .i64 0) := by rw [a56,h4]; rfl
     simp (disch := first | assumption | simp) only [↓sbD,sbU,decide_false,↓reduceIte,Nat.reduceEqDiff,Nat.reduceLT,reduceCtorEq,isConst,c1,a24,g2,c4,c56]
    rotate_left
    focus
     have c1 : aint .and .i64 (n : Int) 1 = some (.int .i64 0) := by rw [a1,show n % 2 = 0 by omega]; rfl
     have g2 : ¬ ((8 * (n / 8 % 4) : Nat) : Int) = 24 := by omega
     have g4 : ¬ ((4 * (n / 4 % 2) : Nat) : Int) = 0 := by omega
     simp (disch := first | assumption | simp) only [↓sbD,sbU,decide_false,↓reduceIte,Nat.reduceEqDiff,Nat.reduceLT,reduceCtorEq,isConst,c1,a24,g2,a4,g4]
    rotate_left
    all_goals
     refine specSErr r3 (fun p hp => ?_) fun k q d z hp hd he => by cases hp
     simp only [hb,if_true,if_false] at hok hbad
     first
      | (simp (disch := first | assumption | simp) only [↓sbD,sbU,tyB,↓reduceIte,Nat.reduceEqDiff,Nat.reduceLT,reduceCtorEq,isConst,gk2]
         refine specNew (n := 2) ⟨by omega,by omega⟩ ?_
         simp (disch := first | assumption | simp) only [↓sbD,sbU,↓reduceIte,Nat.reduceEqDiff,Nat.reduceLT]
         exact downS_here (hbad 2 129 7 rfl _ 1 _ 0 K3 (by omega) (ErN.new _ _ ⟨by omega,by omega⟩)))
      | (simp (disch := first | assumption | simp) only [↓sbD,sbU,tyB,↓reduceIte,Nat.reduceEqDiff,Nat.reduceLT,reduceCtorEq,isConst]
         refine specSErr r3 (fun p hp => ?_) fun k q d z hp hd he => by cases hp
         simp (disch := first | assumption | simp) only [↓sbD,sbU,↓reduceIte,Nat.reduceEqDiff,Nat.reduceLT]
         exact downS_here (hok _ _ rfl _ K3 r3))
end
end Go.Proofs.YtjkhhdknplelcaaGreatDoor.AbsA
