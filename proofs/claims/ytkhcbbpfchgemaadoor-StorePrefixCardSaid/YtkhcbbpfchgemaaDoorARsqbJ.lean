/-
  Parts of a law's proof.
-/
import Derived.Test.YtkhcbbpfchgemaaDoorAPrqjJ
namespace Go.Proofs.YtkhcbbpfchgemaaDoor.AbsB
open Go AbsYtkhcbbpfchgemaaDoor Abs
set_option maxRecDepth 100000
set_option maxHeartbeats 8000000
set_option linter.unusedSimpArgs false
set_option linter.unusedVariables false
attribute [local irreducible] afterS afterOpS opSK OpsS TrS CodeS condS condW thenS thenQ guardS guardTS outS drawS trSK consS
abbrev RSt := Except (Nat × Nat) Nat
def stp {α : Type} (z : α) (rd : Nat → Rd α) : RSt → α × RSt
 | .error e => (z,.error e)
 | .ok p => match rd p with
  | .ok (a,q) => (a,.ok q)
  | .error e => (z,.error e)
def u8S (s : ByteArray) (st : RSt) : Nat × RSt := stp 0 (fun p => numR s p 1) st
def binS (s : ByteArray) (st : RSt) : ByteArray × RSt := stp emp (fun p => binR s p) st
def endS (s : ByteArray) : RSt → Option (Nat × Nat × Nat)
 | .error (k,q) => some (k,129,q)
 | .ok p => if p = s.size then none else some (2,129,p)
def ReadPS (pl : Int) (s : ByteArray) (st : RSt) (r : Except E3 (List Pr × Nat)) : Prop := match st with
 | .error (k,q) => r = .error (k,129,q)
 | .ok p => ReadP pl s p r
def IsRS (σ : AHeap) (r : Nat) (s : ByteArray) : RSt → Prop
 | .ok p => p ≤ s.size ∧ IsR σ r s p .nilIface
 | .error (k,q) => k ≠ 0 ∧ ∃ p,RBad σ r s p k q
theorem ReadPS.det {pl : Int} {s : ByteArray} {st : RSt} {r r' : Except E3 (List Pr × Nat)} (h : ReadPS pl s st r) (h' : ReadPS pl s st r') : r = r' := by
 cases st with
 | error e => obtain ⟨k,q⟩ := e; exact h.trans h'.symm
 | ok p => exact ReadP.det (show ReadP pl s p r from h) h'
section
variable {σ : AHeap} {Q : Value → AHeap → Prop} {r : Nat} {s : ByteArray} {st : RSt}
theorem IsRS.kept {σ' : AHeap} {gp gp' : List Nat} (h : IsRS σ r s st) (k : Kept σ gp σ' gp') (hd : r ∉ gp) : IsRS σ' r s st := by
 cases st with
 | ok p => exact ⟨h.1,(k.at h.2 (by simp) hd).1⟩
 | error e =>
  obtain ⟨a,q⟩ := e
  obtain ⟨h1,p,d,z,h2,h3,h4⟩ := h
  exact ⟨h1,p,d,z,h2,h3,(k.at h4 (by simp) hd).1⟩
theorem IsRS.set {b : Nat} {o : AObj} (h : IsRS σ r s st) (hd : b ≠ r) : IsRS (σ.set b o) r s st := by
 cases st with
 | ok p => exact ⟨h.1,(AHeap.get_set_ne _ _ hd).trans h.2⟩
 | error e =>
  obtain ⟨a,q⟩ := e
  obtain ⟨h1,p,d,z,h2,h3,h4⟩ := h
  exact ⟨h1,p,d,z,h2,h3,(AHeap.get_set_ne _ _ hd).trans h4⟩
theorem IsRS.alive (h : IsRS σ r s st) : σ.get r ≠ .dead := by
 cases st with
 | ok p => intro hd; have := h.2; unfold IsR at this; rw [hd] at this; cases this
 | error e => obtain ⟨a,q⟩ := e; obtain ⟨h1,p,d,z,h2,h3,h4⟩ := h; intro hd; unfold IsR at h4; rw [hd] at h4; cases h4
theorem binR_k {p k q : Nat} (h : binR s p = .error (k,q)) : k ≠ 0 := by
 unfold binR at h
 cases hb : numR s p 2 with
 | ok a => obtain ⟨n,q'⟩ := a; rw [hb] at h; exact rawR_k h
 | error e => obtain ⟨j,q'⟩ := e; rw [hb] at h; simp only [Except.error.injEq,Prod.mk.injEq] at h; have := numR_k hb; omega
theorem specSU8 (hr : IsRS σ r s st) (hs : s.size ≤ 100000000) (h : ∀ σ',Kept σ [r] σ' [r] → IsRS σ' r s (u8S s st).2 → Q (.int .i64 (((u8S s st).1 : Nat) : Int)) σ') : CallS E B 16 [.pointer (some ⟨r,0,none⟩)] σ Q := by
 unfold u8S at h
 cases st with
 | error e =>
  obtain ⟨k,q⟩ := e
  obtain ⟨hk,p,d,z,hd,he,h0⟩ := hr
  simp only [stp] at h
  exact specRU8E h0 (h σ (Kept.refl _ _) ⟨hk,p,d,z,hd,he,h0⟩)
 | ok p =>
  simp only [stp] at h
  refine specRU8 hr.2 hr.1 (by omega) (fun v q hn σ' k1 i1 => ?_) fun k q hn σ' k1 i1 => ?_
  ·rw [hn] at h; exact h σ' k1 ⟨(numR_ok hn).2,i1⟩
  ·rw [hn] at h; exact h σ' k1 ⟨numR_k hn,p,i1⟩
theorem specSBin (hr : IsRS σ r s st) (hs : s.size ≤ 100000000) (h : ∀ σ',Kept σ [r] σ' [r] → IsRS σ' r s (binS s st).2 → Q (.string (binS s st).1) σ') : CallS E B 17 [.pointer (some ⟨r,0,none⟩)] σ Q := by
 unfold binS at h
 cases st with
 | error e =>
  obtain ⟨k,q⟩ := e
  obtain ⟨hk,p,d,z,hd,he,h0⟩ := hr
  simp only [stp] at h
  exact specRBinE h0 fun σ' k1 i1 => h σ' k1 ⟨hk,p,d,z,hd,he,i1⟩
 | ok p =>
  simp only [stp] at h
  refine specRBin hr.2 hr.1 (by omega) (fun v q hn σ' k1 i1 => ?_) fun k q hn σ' k1 i1 => ?_
  ·rw [hn] at h; exact h σ' k1 ⟨(binR_ok hn).1,i1⟩
  ·rw [hn] at h; exact h σ' k1 ⟨binR_k hn,p,i1⟩
theorem specSDone (hr : IsRS σ r s st) (hs : s.size ≤ 100000000) (hok : endS s st = none → Q .nilIface σ) (hbad : ∀ k q d z,endS s st = some (k,129,q) → d ≤ 2 → ErN d (fv 129 (q : Int) z) k → Q (fv 129 (q : Int) z) σ) : CallS E B 20 [.pointer (some ⟨r,0,none⟩)] σ Q := by
 cases st with
 | ok p =>
  simp only [endS] at hok hbad
  exact specRDone hr.2 hr.1 (by omega) (fun he => hok (if_pos he)) fun hm => hbad 2 p 1 _ (if_neg (by omega)) (by omega) (ErN.new _ _ ⟨by omega,by omega⟩)
 | error e =>
  obtain ⟨k,q⟩ := e
  obtain ⟨hk,p,d,z,hd,he,h0⟩ := hr
  exact specRDoneE h0 (hbad k q d z rfl hd he)
theorem specPReadE {pl : Int} {p : Nat} {u : Nat} {x : Value} (hr : IsR σ r s p (.iface u x)) (h : Q (.tuple #[.slice none 0 0,.iface u x]) σ) : CallS E B 35 [.pointer (some ⟨r,0,none⟩),.int .i64 pl] σ Q := by
 refine call35 (by simp) ?_
 simp only [strip,bodyOf,Tryd.f35,getD_body,keepN,bareOp_mk,lessOp_mk,lapp_cons,lapp_nil,List.map_cons,List.map_nil,array_toList,↓reduceIte,Nat.reduceEqDiff,Bool.false_eq_true]
 simp (disch := first | assumption | simp) only [↓sbD,sbU,tyB,Nat.reduceMul,Nat.reduceSub,Int.reduceEq,Int.reduceLT,Int.reduceLE,Int.reduceNe,Nat.reduceBneDiff,Nat.reduceBEq,decide_false,gt_iff_lt,Bool.or_self,Bool.false_eq_true,Nat.mul_one,Nat.one_mul,Nat.zero_mul,↓reduceIte,Nat.reduceEqDiff,Nat.reduceLT,Nat.reduceAdd,Nat.reduceLeDiff,reduceCtorEq,goInt,pairs,isConst,TI.isAgg,splice,boxS,Edp,dpv,Nat.beq_eq,ZV.val,List.any_cons,List.any_nil,Bool.false_and]
 refine specRVarE hr ?_
 simp (disch := first | assumption | simp) only [↓sbD,sbU,tyB,Nat.reduceMul,Nat.reduceSub,Int.reduceEq,Int.reduceLT,Int.reduceLE,Int.reduceNe,Nat.reduceBneDiff,Nat.reduceBEq,decide_false,gt_iff_lt,Bool.or_self,Bool.false_eq_true,Nat.mul_one,Nat.one_mul,Nat.zero_mul,↓reduceIte,Nat.reduceEqDiff,Nat.reduceLT,Nat.reduceAdd,Nat.reduceLeDiff,reduceCtorEq,goInt,pairs,isConst,TI.isAgg,splice,boxS,Edp,dpv,Nat.beq_eq,ZV.val,List.any_cons,List.any_nil,Bool.false_and]
 refine specRRawE hr ?_
 simp (disch := first | assumption | simp) only [↓sbD,sbU,tyB,Nat.reduceMul,Nat.reduceSub,Int.reduceEq,Int.reduceLT,Int.reduceLE,Int.reduceNe,Nat.reduceBneDiff,Nat.reduceBEq,decide_false,gt_iff_lt,Bool.or_self,Bool.false_eq_true,Nat.mul_one,Nat.one_mul,Nat.zero_mul,↓reduceIte,Nat.reduceEqDiff,Nat.reduceLT,Nat.reduceAdd,Nat.reduceLeDiff,reduceCtorEq,goInt,pairs,isConst,TI.isAgg,splice,boxS,Edp,dpv,Nat.beq_eq,ZV.val,List.any_cons,List.any_nil,Bool.false_and]
 refine specRErr hr ?_
 simp (disch := first | assumption | simp) only [↓sbD,sbU,tyB,Nat.reduceMul,Nat.reduceSub,Int.reduceEq,Int.reduceLT,Int.reduceLE,Int.reduceNe,Nat.reduceBneDiff,Nat.reduceBEq,decide_false,gt_iff_lt,Bool.or_self,Bool.false_eq_true,Nat.mul_one,Nat.one_mul,Nat.zero_mul,↓reduceIte,Nat.reduceEqDiff,Nat.reduceLT,Nat.reduceAdd,Nat.reduceLeDiff,reduceCtorEq,goInt,pairs,isConst,TI.isAgg,splice,boxS,Edp,dpv,Nat.beq_eq,ZV.val,List.any_cons,List.any_nil,Bool.false_and]
 exact downS_here h
theorem specSRead {pl : Int} (hr : IsRS σ r s st) (hs : s.size ≤ 100000000)
  (hok : ∀ l q,ReadPS pl s st (.ok (l,q)) → ∀ v σ',DL propC 4 v l → Kept σ [r] σ' [r] → IsRS σ' r s (.ok q) → Q (.tuple #[v,.nilIface]) σ')
  (hbad : ∀ k rr a : Nat,ReadPS pl s st (.error (k,rr,a)) → ∀ σ' d z,Kept σ [r] σ' [r] → d ≤ 3 → ErN d (fv rr a z) k → Q (.tuple #[.slice none 0 0,fv rr a z]) σ') :
  CallS E B 35 [.pointer (some ⟨r,0,none⟩),.int .i64 pl] σ Q := by
 cases st with
 | ok p => exact specPRead hr.2 hr.1 hs (fun l q h1 v σ' h2 h3 h4 h5 => hok l q h1 v σ' h2 h3 ⟨h5,h4⟩) hbad
 | error e =>
  obtain ⟨k,q⟩ := e
  obtain ⟨hk,p,d,z,hd,he,h0⟩ := hr
  exact specPReadE h0 (hbad k 129 q rfl σ d z (Kept.refl _ _) (by omega) he)
end
end Go.Proofs.YtkhcbbpfchgemaaDoor.AbsB
namespace Go.Proofs.YtkhcbbpfchgemaaDoor.AbsB
open Go AbsYtkhcbbpfchgemaaDoor Abs
set_option maxRecDepth 100000
set_option maxHeartbeats 2000000
set_option linter.unusedSimpArgs false
set_option linter.unusedVariables false
def plain (x : Pr) : Prop := (typI x.id < 6 → x.s = emp ∧ x.v = emp) ∧ (5 < typI x.id → x.n = 0) ∧ (typI x.id = 6 ∨ typI x.id = 7 → x.v = emp)
set_option maxHeartbeats 4000000
theorem numR_lt {s : ByteArray} {p k n q : Nat} (h : numR s p k = .ok (n,q)) : n < 256 ^ k := by
 unfold numR at h
 cases hb : rawR s p k with
 | error e => rw [hb] at h; cases h
 | ok a =>
  obtain ⟨b,q'⟩ := a
  rw [hb] at h
  simp only [Except.ok.injEq,Prod.mk.injEq] at h
  have h1 := (rawR_ok hb).2.2.2.2
  rw [Int.toNat_natCast] at h1
  rw [← h.1]
  have := beF_lt b b.size
  rw [h1] at this ⊢
  exact this
theorem numW_ok {n k : Nat} (h : n < 2 ^ (8 * k)) : numW (n : Int) k = .inl (numB n k) := by
 unfold numW
 rw [if_neg (by omega),Int.toNat_natCast]
theorem w1 {n : Nat} (h : n < 256) : actW ⟨1,(n : Int),emp⟩ = .inl (numB n 1) := numW_ok (by omega)
theorem w2 {n : Nat} (h : n < 65536) : actW ⟨2,(n : Int),emp⟩ = .inl (numB n 2) := numW_ok (by omega)
attribute [local irreducible] afterS afterOpS opSK OpsS TrS CodeS condS condW thenS thenQ guardS guardTS outS drawS trSK consS
def u32S (s : ByteArray) (st : RSt) : Nat × RSt := stp 0 (fun p => numR s p 4) st
section
variable {σ : AHeap} {Q : Value → AHeap → Prop} {r : Nat} {s : ByteArray} {st : RSt}
theorem u32S_lt : (u32S s st).1 < 4294967296 := by
 unfold u32S
 cases st with
 | error e => simp only [stp]; omega
 | ok p =>
  simp only [stp]
  cases h : numR s p 4 with
  | error e => simp only []; omega
  | ok a =>
   obtain ⟨n,q⟩ := a
   exact numR_lt h
theorem u8S_lt : (u8S s st).1 < 256 := by
 unfold u8S
 cases st with
 | error e => simp only [stp]; omega
 | ok p =>
  simp only [stp]
  cases h : numR s p 1 with
  | error e => simp only []; omega
  | ok a =>
   obtain ⟨n,q⟩ := a
   exact numR_lt h
theorem specSU32 (hr : IsRS σ r s st) (hs : s.size ≤ 100000000) (h : ∀ σ',Kept σ [r] σ' [r] → IsRS σ' r s (u32S s st).2 → Q (.int .i64 (((u32S s st).1 : Nat) : Int)) σ') : CallS E B 18 [.pointer (some ⟨r,0,none⟩)] σ Q := by
 unfold u32S at h
 cases st with
 | error e =>
  obtain ⟨k,q⟩ := e
  obtain ⟨hk,p,d,z,hd,he,h0⟩ := hr
  simp only [stp] at h
  exact specRU32E h0 (h σ (Kept.refl _ _) ⟨hk,p,d,z,hd,he,h0⟩)
 | ok p =>
  simp only [stp] at h
  refine specRU32 hr.2 hr.1 (by omega) (fun v q hn σ' k1 i1 => ?_) fun k q hn σ' k1 i1 => ?_
  ·rw [hn] at h; exact h σ' k1 ⟨(numR_ok hn).2,i1⟩
  ·rw [hn] at h; exact h σ' k1 ⟨numR_k hn,p,i1⟩
end
structure Ms where
 t : ByteArray
 p : ByteArray
 q : Int
 r : Bool
 l : List Pr
 f : ByteArray
 u : Int
 n : Int
 g : ByteArray
def mz : Ms := ⟨emp,emp,0,false,[],emp,0,0,emp⟩
structure Op1 where
 k : Int
 g : ByteArray
 n : Int
 m : Ms
def msC (m : Ms) (v : Value) : List Value := [.string m.t,.string m.p,.int .i64 m.q,.bool m.r,v,.string m.f,.int .i64 m.u,.int .i64 m.n,.string m.g]
def opC (o : Op1) (v : Value) : List Value := [.int .i64 o.k,.string o.g,.int .i64 o.n,.string o.m.t,.string o.m.p,.int .i64 o.m.q,.bool o.m.r,v,.string o.m.f,.int .i64 o.m.u,.int .i64 o.m.n,.string o.m.g]
def mayM (o : Op1) : Prop := o.m.g = o.g ∧ o.m.n = o.n ∧ 0 ≤ o.m.q ∧ o.m.q ≤ 2 ∧ 0 ≤ o.m.u ∧ o.m.u ≤ 9007199254740992
instance (o : Op1) : Decidable (mayM o) := by unfold mayM; infer_instance
def mayO (o : Op1) : Prop := 1 ≤ o.k ∧ o.k ≤ 3 ∧ o.g ≠ emp ∧ 1 ≤ o.n ∧ o.n ≤ 4294967295 ∧ (o.k = 1 → mayM o)
instance (o : Op1) : Decidable (mayO o) := by unfold mayO; infer_instance
def finO (s : ByteArray) (o : Op1) (fl : Nat) (st : RSt) : Except E3 Op1 := match endS s st with
 | some e => .error e
 | none => if mayO o ∧ fl ≤ 7 then .ok o else .error (2,129,0)
def mOf (g : ByteArray) (n : Nat) (t p : ByteArray) (b : Nat) (f : ByteArray) (h w : Nat) (l : List Pr) : Ms := ⟨t,p,((b % 4 : Nat) : Int),decide (b / 4 % 2 = 1),l,f,IntKind.i64.wrap ((h : Int) * 4294967296 + (w : Int)),n,g⟩
def restY (g : ByteArray) (n : Nat) (t p : ByteArray) (b : Nat) (f : ByteArray) (h w : Nat) : Except E3 (List Pr × Nat) → Except E3 (Ms × Nat × Nat)
 | .error e => .error e
 | .ok (l,q) => .ok (mOf g n t p b f h w l,b,q)
def M8 (s g : ByteArray) (n : Nat) (t p : ByteArray) (b : Nat) (f : ByteArray) (h : Nat) (a : Nat × RSt) (y : Except E3 (Ms × Nat × Nat)) : Prop := ∃ x,ReadPS 3 s a.2 x ∧ y = restY g n t p b f h a.1 x
def M7 (s g : ByteArray) (n : Nat) (t p : ByteArray) (b : Nat) (f : ByteArray) (a : Nat × RSt) (y : Except E3 (Ms × Nat × Nat)) : Prop := M8 s g n t p b f a.1 (u32S s a.2) y
def M6 (s g : ByteArray) (n : Nat) (t p : ByteArray) (b : Nat) (a : ByteArray × RSt) (y : Except E3 (Ms × Nat × Nat)) : Prop := M7 s g n t p b a.1 (u32S s a.2) y
def M5 (s g : ByteArray) (n : Nat) (t p : ByteArray) (a : Nat × RSt) (y : Except E3 (Ms × Nat × Nat)) : Prop := M6 s g n t p a.1 (binS s a.2) y
def M4 (s g : ByteArray) (n : Nat) (t : ByteArray) (a : ByteArray × RSt) (y : Except E3 (Ms × Nat × Nat)) : Prop := M5 s g n t a.1 (u8S s a.2) y
def M3 (s g : ByteArray) (n : Nat) (a : ByteArray × RSt) (y : Except E3 (Ms × Nat × Nat)) : Prop := M4 s g n a.1 (binS s a.2) y
def RdM (s g : ByteArray) (n : Nat) (st : RSt) (y : Except E3 (Ms × Nat × Nat)) : Prop := M3 s g n (binS s st) y
def restO (s g : ByteArray) (n : Nat) : Except E3 (Ms × Nat × Nat) → Except E3 Op1
 | .error e => .error e
 | .ok (m,b,q) => finO s ⟨1,g,n,m⟩ b (.ok q)
def O2 (s : ByteArray) (k : Nat) (g : ByteArray) (a : Nat × RSt) (r : Except E3 Op1) : Prop := if k = 1 then ∃ y,RdM s g a.1 a.2 y ∧ r = restO s g a.1 y else r = finO s ⟨k,g,a.1,mz⟩ 0 a.2
def O1 (s : ByteArray) (k : Nat) (a : ByteArray × RSt) (r : Except E3 Op1) : Prop := O2 s k a.1 (u32S s a.2) r
def O0 (s : ByteArray) (a : Nat × RSt) (r : Except E3 Op1) : Prop := O1 s a.1 (binS s a.2) r
theorem RdM.det {s g : ByteArray} {n : Nat} {st : RSt} {y y' : Except E3 (Ms × Nat × Nat)} (h : RdM s g n st y) (h' : RdM s g n st y') : y = y' := by
 unfold RdM M3 M4 M5 M6 M7 M8 at h h'
 obtain ⟨x,h1,rfl⟩ := h
 obtain ⟨z,h2,rfl⟩ := h'
 rw [h1.det h2]
def DecO (s : ByteArray) (r : Except E3 Op1) : Prop := O0 s (u8S s (.ok 0)) r
theorem DecO.det {s : ByteArray} {r r' : Except E3 Op1} (h : DecO s r) (h' : DecO s r') : r = r' := by
 unfold DecO O0 O1 O2 at h h'
 split at h
 ·rename_i hk
  rw [if_pos hk] at h'
  obtain ⟨x,h1,rfl⟩ := h
  obtain ⟨y,h2,rfl⟩ := h'
  rw [h1.det h2]
 ·rename_i hk
  rw [if_neg hk] at h'
  rw [h,h']
end Go.Proofs.YtkhcbbpfchgemaaDoor.AbsB
