/-
  A part of a law's proof.
-/
import Derived.Test.YtkhcbbpfchgemaaGreatDoorAPeqcJ
import Derived.Test.YtkhcbbpfchgemaaGreatDoorAYrqdJ
import Derived.Test.YtkhcbbpfchgemaaGreatDoorAGeqcJ
namespace Go.Proofs.YtkhcbbpfchgemaaGreatDoor.AbsA
open Go AbsYtkhcbbpfchgemaaGreatDoor Abs
set_option maxRecDepth 100000
set_option maxHeartbeats 8000000
set_option linter.unusedSimpArgs false
set_option linter.unusedVariables false
attribute [local irreducible] afterS afterOpS opSK OpsS TrS CodeS condS condW thenS thenQ guardS guardTS outS drawS trSK consS
theorem typedC_pk {H : AHeap} {d : Nat} {xs : List Value} (h1 : Typed E H d 54 xs) : ∃ (p : Pk) (vp vw vs vf vc : Value),DL propC 4 vp p.props ∧ DL propC 4 vw p.will.props ∧ DL subC 5 vs p.subs ∧ DL strC1 1 vf p.filts ∧ DL intC 1 vc p.codes ∧ xs = pkC p vp vw vs vf vc ∧ frzL E.ng E.nb xs = true := by
 cases d with
 | zero => exact h1.elim
 | succ d =>
  simp only [Typed,ty54] at h1
  obtain ⟨hl,hp⟩ := h1
  match xs,hl with
  | [x0,x1,x2,x3,x4,x5,x6,x7,x8,x9,x10,x11,x12,x13,x14,x15,x16,x17,x18,x19,x20,x21,x22,x23,x24,x25],_ =>
   obtain ⟨j,j1,j2⟩ := hp (0,3,false) (by simp)
   rw [ty3] at j1; injection j1 with j1; subst j1
   obtain ⟨akind,eakind,_⟩ := typed_int (by simpa using j2)
   obtain ⟨j,j1,j2⟩ := hp (1,3,false) (by simp)
   rw [ty3] at j1; injection j1 with j1; subst j1
   obtain ⟨aid,eaid,_⟩ := typed_int (by simpa using j2)
   obtain ⟨j,j1,j2⟩ := hp (2,3,false) (by simp)
   rw [ty3] at j1; injection j1 with j1; subst j1
   obtain ⟨area,earea,_⟩ := typed_int (by simpa using j2)
   obtain ⟨j,j1,j2⟩ := hp (3,26,false) (by simp)
   rw [ty26] at j1; injection j1 with j1; subst j1
   obtain ⟨vaprops,aprops,eaprops,daprops,zaprops⟩ := typedL_pr (by simpa using j2)
   obtain ⟨j,j1,j2⟩ := hp (4,4,false) (by simp)
   rw [ty4] at j1; injection j1 with j1; subst j1
   obtain ⟨aclean,eaclean⟩ := typed_b (by simpa using j2)
   obtain ⟨j,j1,j2⟩ := hp (5,3,false) (by simp)
   rw [ty3] at j1; injection j1 with j1; subst j1
   obtain ⟨akeep,eakeep,_⟩ := typed_int (by simpa using j2)
   obtain ⟨j,j1,j2⟩ := hp (6,9,false) (by simp)
   rw [ty9] at j1; injection j1 with j1; subst j1
   obtain ⟨aclient,eaclient,_⟩ := typed_str (by simpa using j2)
   obtain ⟨j,j1,j2⟩ := hp (7,50,false) (by simp)
   rw [ty50] at j1; injection j1 with j1; subst j1
   obtain ⟨w,vw,dw,ew,zw⟩ := typed_wl (by simpa using j2)
   obtain ⟨j,j1,j2⟩ := hp (13,4,false) (by simp)
   rw [ty4] at j1; injection j1 with j1; subst j1
   obtain ⟨ahasU,eahasU⟩ := typed_b (by simpa using j2)
   obtain ⟨j,j1,j2⟩ := hp (14,9,false) (by simp)
   rw [ty9] at j1; injection j1 with j1; subst j1
   obtain ⟨auser,eauser,_⟩ := typed_str (by simpa using j2)
   obtain ⟨j,j1,j2⟩ := hp (15,4,false) (by simp)
   rw [ty4] at j1; injection j1 with j1; subst j1
   obtain ⟨ahasP,eahasP⟩ := typed_b (by simpa using j2)
   obtain ⟨j,j1,j2⟩ := hp (16,9,false) (by simp)
   rw [ty9] at j1; injection j1 with j1; subst j1
   obtain ⟨apass,eapass,_⟩ := typed_str (by simpa using j2)
   obtain ⟨j,j1,j2⟩ := hp (17,4,false) (by simp)
   rw [ty4] at j1; injection j1 with j1; subst j1
   obtain ⟨apresent,eapresent⟩ := typed_b (by simpa using j2)
   obtain ⟨j,j1,j2⟩ := hp (18,9,false) (by simp)
   rw [ty9] at j1; injection j1 with j1; subst j1
   obtain ⟨atopic,eatopic,_⟩ := typed_str (by simpa using j2)
   obtain ⟨j,j1,j2⟩ := hp (19,9,false) (by simp)
   rw [ty9] at j1; injection j1 with j1; subst j1
   obtain ⟨apay,eapay,_⟩ := typed_str (by simpa using j2)
   obtain ⟨j,j1,j2⟩ := hp (20,3,false) (by simp)
   rw [ty3] at j1; injection j1 with j1; subst j1
   obtain ⟨aqos,eaqos,_⟩ := typed_int (by simpa using j2)
   obtain ⟨j,j1,j2⟩ := hp (21,4,false) (by simp)
   rw [ty4] at j1; injection j1 with j1; subst j1
   obtain ⟨aret,earet⟩ := typed_b (by simpa using j2)
   obtain ⟨j,j1,j2⟩ := hp (22,4,false) (by simp)
   rw [ty4] at j1; injection j1 with j1; subst j1
   obtain ⟨adup,eadup⟩ := typed_b (by simpa using j2)
   obtain ⟨j,j1,j2⟩ := hp (23,51,false) (by simp)
   rw [ty51] at j1; injection j1 with j1; subst j1
   obtain ⟨vasubs,asubs,easubs,dasubs,zasubs⟩ := typedL_sb (by simpa using j2)
   obtain ⟨j,j1,j2⟩ := hp (24,22,false) (by simp)
   rw [ty22] at j1; injection j1 with j1; subst j1
   obtain ⟨vafilts,afilts,eafilts,dafilts,zafilts⟩ := typedL_s (by simpa using j2)
   obtain ⟨j,j1,j2⟩ := hp (25,52,false) (by simp)
   rw [ty52] at j1; injection j1 with j1; subst j1
   obtain ⟨vacodes,acodes,eacodes,dacodes,zacodes⟩ := typedL_i (by simpa using j2)
   simp only [List.cons.injEq,and_true,wlC] at ew eakind eaid earea eaprops eaclean eakeep eaclient eahasU eauser eahasP eapass eapresent eatopic eapay eaqos earet eadup easubs eafilts eacodes
   obtain ⟨w0,w1,w2,w3,w4,w5⟩ := ew
   subst eakind eaid earea eaprops eaclean eakeep eaclient eahasU eauser eahasP eapass eapresent eatopic eapay eaqos earet eadup easubs eafilts eacodes w0 w1 w2 w3 w4 w5
   exact ⟨⟨akind,aid,area,aprops,aclean,akeep,aclient,w,ahasU,auser,ahasP,apass,apresent,atopic,apay,aqos,aret,adup,asubs,afilts,acodes⟩,_,_,_,_,_,daprops,dw,dasubs,dafilts,dacodes,rfl,by simp only [frzL,frz_int,frz_bool,frz_str,zaprops,zw,zasubs,zafilts,zacodes,Bool.and_self,Bool.and_true]⟩
structure Tm where
 e : Int
 r : Int
 p : Int
 a : Int
 k : Int
 b : Bool
def tmC (t : Tm) : List Value := [.int .i64 t.e,.int .i64 t.r,.int .i64 t.p,.int .i64 t.a,.int .i64 t.k,.bool t.b]
theorem typed_tm {H : AHeap} {d : Nat} {xs : List Value} (h : Typed E H d 70 xs) : ∃ t : Tm,xs = tmC t := by
 cases d with
 | zero => exact h.elim
 | succ d =>
  simp only [Typed,ty70] at h
  obtain ⟨hl,hp⟩ := h
  match xs,hl with
  | [x0,x1,x2,x3,x4,x5],_ =>
   obtain ⟨j,j1,j2⟩ := hp (0,3,false) (by simp)
   rw [ty3] at j1; injection j1 with j1; subst j1
   obtain ⟨a0,e0,_⟩ := typed_int (by simpa using j2)
   obtain ⟨j,j1,j2⟩ := hp (1,3,false) (by simp)
   rw [ty3] at j1; injection j1 with j1; subst j1
   obtain ⟨a1,e1,_⟩ := typed_int (by simpa using j2)
   obtain ⟨j,j1,j2⟩ := hp (2,3,false) (by simp)
   rw [ty3] at j1; injection j1 with j1; subst j1
   obtain ⟨a2,e2,_⟩ := typed_int (by simpa using j2)
   obtain ⟨j,j1,j2⟩ := hp (3,3,false) (by simp)
   rw [ty3] at j1; injection j1 with j1; subst j1
   obtain ⟨a3,e3,_⟩ := typed_int (by simpa using j2)
   obtain ⟨j,j1,j2⟩ := hp (4,3,false) (by simp)
   rw [ty3] at j1; injection j1 with j1; subst j1
   obtain ⟨a4,e4,_⟩ := typed_int (by simpa using j2)
   obtain ⟨j,j1,j2⟩ := hp (5,4,false) (by simp)
   rw [ty4] at j1; injection j1 with j1; subst j1
   obtain ⟨a5,e5⟩ := typed_b (by simpa using j2)
   simp only [List.cons.injEq,and_true] at e0 e1 e2 e3 e4 e5
   exact ⟨⟨a0,a1,a2,a3,a4,a5⟩,by rw [e0,e1,e2,e3,e4,e5]; rfl⟩
structure Ca where
 k : Int
 s : ByteArray
 p : Pk
 t : Tm
 n : Int
 r : Bool
def caC (a : Ca) (vp vw vs vf vc : Value) : List Value := .int .i64 a.k :: .string a.s :: (pkC a.p vp vw vs vf vc ++ (tmC a.t ++ [.int .i64 a.n,.bool a.r]))
theorem typed_ca {H : AHeap} {d : Nat} {v : Value} (h : ArgTyped E H d 72 v) : ∃ (a : Ca) (vp vw vs vf vc : Value),DL propC 4 vp a.p.props ∧ DL propC 4 vw a.p.will.props ∧ DL subC 5 vs a.p.subs ∧ DL strC1 1 vf a.p.filts ∧ DL intC 1 vc a.p.codes ∧ frzL E.ng E.nb (pkC a.p vp vw vs vf vc) = true ∧ v = .agg ⟨caC a vp vw vs vf vc⟩ := by
 obtain ⟨xs,h1,rfl⟩ := h.agg ty72 rfl
 cases d with
 | zero => exact h1.elim
 | succ d =>
  simp only [Typed,ty72] at h1
  obtain ⟨hl,hp⟩ := h1
  obtain ⟨j,j1,j2⟩ := hp (0,3,false) (by simp)
  rw [ty3] at j1; injection j1 with j1; subst j1
  obtain ⟨ak,e0,_⟩ := typed_int j2
  obtain ⟨j,j1,j2⟩ := hp (1,9,false) (by simp)
  rw [ty9] at j1; injection j1 with j1; subst j1
  obtain ⟨as',e1,_⟩ := typed_str j2
  obtain ⟨j,j1,j2⟩ := hp (2,54,false) (by simp)
  rw [ty54] at j1; injection j1 with j1; subst j1
  obtain ⟨p,vp,vw,vs,vf,vc,d1,d2,d3,d4,d5,e2,hz⟩ := typedC_pk j2
  obtain ⟨j,j1,j2⟩ := hp (28,70,false) (by simp)
  rw [ty70] at j1; injection j1 with j1; subst j1
  obtain ⟨at',e3⟩ := typed_tm j2
  obtain ⟨j,j1,j2⟩ := hp (34,3,false) (by simp)
  rw [ty3] at j1; injection j1 with j1; subst j1
  obtain ⟨an,e4,_⟩ := typed_int j2
  obtain ⟨j,j1,j2⟩ := hp (35,4,false) (by simp)
  rw [ty4] at j1; injection j1 with j1; subst j1
  obtain ⟨ar,e5⟩ := typed_b j2
  refine ⟨⟨ak,as',p,at',an,ar⟩,vp,vw,vs,vf,vc,d1,d2,d3,d4,d5,by rw [← e2]; exact hz,?_⟩
  have hx : xs = caC ⟨ak,as',p,at',an,ar⟩ vp vw vs vf vc := by
   have c : ∀ a m : Nat,xs.drop a = (xs.drop a).take m ++ xs.drop (a + m) := fun a m => by rw [← List.drop_drop,List.take_append_drop]
   have z : xs.drop 36 = [] := List.drop_eq_nil_of_le (by omega)
   have c0 := c 0 1
   have c1 := c 1 1
   have c2 := c 2 26
   have c3 := c 28 6
   have c4 := c 34 1
   have c5 := c 35 1
   simp only at e0 e1 e2 e3 e4 e5
   rw [e0] at c0
   rw [e1] at c1
   rw [e2] at c2
   rw [e3] at c3
   rw [e4] at c4
   rw [e5,z] at c5
   rw [c5] at c4
   rw [c4] at c3
   rw [c3] at c2
   rw [c2] at c1
   rw [c1] at c0
   exact c0
  rw [← hx]
  try rfl
section
variable {σ : AHeap} {Q : Value → AHeap → Prop} {s : Value}
theorem zeCn : azero E 81 = some [.bool false,.int .i64 0,.pointer none,.nilIface,.string emp,.int .i64 0,.int .i64 0,.int .i64 0,.int .i64 0,.int .i64 0,.bool false,.pointer none,.pointer none,.string emp,.slice none 0 0,.int .i64 0] := rfl
theorem zeTmC : azero E 70 = some [.int .i64 0,.int .i64 0,.int .i64 0,.int .i64 0,.int .i64 0,.bool false] := rfl
theorem zePkC : azero E 54 = some [.int .i64 0,.int .i64 0,.int .i64 0,.slice none 0 0,.bool false,.int .i64 0,.string emp,.bool false,.string emp,.string emp,.int .i64 0,.bool false,.slice none 0 0,.bool false,.string emp,.bool false,.string emp,.bool false,.string emp,.string emp,.int .i64 0,.bool false,.bool false,.slice none 0 0,.slice none 0 0,.slice none 0 0] := rfl
theorem ndC : dp 81 = false ∧ dp 70 = false ∧ dp 72 = false := ⟨rfl,rfl,rfl⟩
def con0 : List Value := [.bool false,.int .i64 0,.pointer none,.nilIface,.string emp,.int .i64 0,.int .i64 0,.int .i64 0,.int .i64 0,.int .i64 0,.bool false,.pointer none,.pointer none,.string emp,.slice none 0 0,.int .i64 0]
def NC (σ : AHeap) (s : Value) : Prop := s = .pointer none ∨ ∃ b,s = .pointer (some ⟨b,0,none⟩) ∧ σ.get b = .cells con0 true 0
theorem NC.kept {σ' : AHeap} (h : NC σ s) (k : Kept σ [] σ' []) : NC σ' s := by
 rcases h with h | ⟨b,h1,h2⟩
 ·exact .inl h
 ·exact .inr ⟨b,h1,by rw [k.get b (by rw [h2]; simp) (by simp)]; exact h2⟩
theorem specCClosed (hs : NC σ s) (h : Q (.bool true) σ) : CallS E B 45 [s] σ Q := by
 have hs0 := hs
 rcases hs with rfl | ⟨b,rfl,gb⟩
 ·refine call45 (by simp) ?_
  simp only [strip,bodyOf,Tryz.f45,getD_body,keepN,bareOp_mk,lessOp_mk,lapp_cons,lapp_nil,List.map_cons,List.map_nil,array_toList,↓reduceIte,Nat.reduceEqDiff,Bool.false_eq_true]
  simp (disch := first | assumption | simp) only [↓sbD,sbU,tyB,Nat.reduceMul,Nat.reduceSub,Int.reduceEq,Int.reduceLT,Int.reduceLE,Int.reduceNe,Nat.reduceBneDiff,Nat.reduceBEq,decide_false,gt_iff_lt,Bool.or_self,Bool.false_eq_true,Nat.mul_one,Nat.one_mul,Nat.zero_mul,↓reduceIte,Nat.reduceEqDiff,Nat.reduceLT,Nat.reduceAdd,Nat.reduceLeDiff,reduceCtorEq,goInt,pairs,isConst,TI.isAgg,splice,boxS,Edp,dpv,Nat.beq_eq,ZV.val,List.any_cons,List.any_nil,Bool.false_and,not_bool,Bool.not_false]
  exact downS_here h
 ·refine call45 (by simp) ?_
  simp only [strip,bodyOf,Tryz.f45,getD_body,keepN,bareOp_mk,lessOp_mk,lapp_cons,lapp_nil,List.map_cons,List.map_nil,array_toList,↓reduceIte,Nat.reduceEqDiff,Bool.false_eq_true]
  simp only [con0] at gb
  simp (disch := first | assumption | simp) only [↓sbD,sbU,tyB,Nat.reduceMul,Nat.reduceSub,Int.reduceEq,Int.reduceLT,Int.reduceLE,Int.reduceNe,Nat.reduceBneDiff,Nat.reduceBEq,decide_false,gt_iff_lt,Bool.or_self,Bool.false_eq_true,Nat.mul_one,Nat.one_mul,Nat.zero_mul,↓reduceIte,Nat.reduceEqDiff,Nat.reduceLT,Nat.reduceAdd,Nat.reduceLeDiff,reduceCtorEq,goInt,pairs,isConst,TI.isAgg,splice,boxS,Edp,dpv,Nat.beq_eq,ZV.val,List.any_cons,List.any_nil,Bool.false_and,gb,not_bool,Bool.not_false]
  exact downS_here h
theorem specCMade (hs : NC σ s) (h : Q (.bool false) σ) : CallS E B 98 [s] σ Q := by
 have hs0 := hs
 rcases hs with rfl | ⟨b,rfl,gb⟩
 ·refine call98 (by simp) ?_
  simp only [strip,bodyOf,Tryz.f98,getD_body,keepN,bareOp_mk,lessOp_mk,lapp_cons,lapp_nil,List.map_cons,List.map_nil,array_toList,↓reduceIte,Nat.reduceEqDiff,Bool.false_eq_true]
  simp (disch := first | assumption | simp) only [↓sbD,sbU,tyB,Nat.reduceMul,Nat.reduceSub,Int.reduceEq,Int.reduceLT,Int.reduceLE,Int.reduceNe,Nat.reduceBneDiff,Nat.reduceBEq,decide_false,gt_iff_lt,Bool.or_self,Bool.false_eq_true,Nat.mul_one,Nat.one_mul,Nat.zero_mul,↓reduceIte,Nat.reduceEqDiff,Nat.reduceLT,Nat.reduceAdd,Nat.reduceLeDiff,reduceCtorEq,goInt,pairs,isConst,TI.isAgg,splice,boxS,Edp,dpv,Nat.beq_eq,ZV.val,List.any_cons,List.any_nil,Bool.false_and]
  exact downS_here h
 ·refine call98 (by simp) ?_
  simp only [strip,bodyOf,Tryz.f98,getD_body,keepN,bareOp_mk,lessOp_mk,lapp_cons,lapp_nil,List.map_cons,List.map_nil,array_toList,↓reduceIte,Nat.reduceEqDiff,Bool.false_eq_true]
  simp only [con0] at gb
  simp (disch := first | assumption | simp) only [↓sbD,sbU,tyB,Nat.reduceMul,Nat.reduceSub,Int.reduceEq,Int.reduceLT,Int.reduceLE,Int.reduceNe,Nat.reduceBneDiff,Nat.reduceBEq,decide_false,gt_iff_lt,Bool.or_self,Bool.false_eq_true,Nat.mul_one,Nat.one_mul,Nat.zero_mul,↓reduceIte,Nat.reduceEqDiff,Nat.reduceLT,Nat.reduceAdd,Nat.reduceLeDiff,reduceCtorEq,goInt,pairs,isConst,TI.isAgg,splice,boxS,Edp,dpv,Nat.beq_eq,ZV.val,List.any_cons,List.any_nil,Bool.false_and,gb]
  exact downS_here h
theorem specCFeed {x : ByteArray} (hs : NC σ s) (h : Q unit σ) : CallS E B 33 [s,.string x] σ Q := by
 have hs0 := hs
 rcases hs with rfl | ⟨b,rfl,gb⟩
 ·refine call33 (by simp) ?_
  simp only [strip,bodyOf,Tryz.f33,getD_body,keepN,bareOp_mk,lessOp_mk,lapp_cons,lapp_nil,List.map_cons,List.map_nil,array_toList,↓reduceIte,Nat.reduceEqDiff,Bool.false_eq_true]
  simp (disch := first | assumption | simp) only [↓sbD,sbU,tyB,Nat.reduceMul,Nat.reduceSub,Int.reduceEq,Int.reduceLT,Int.reduceLE,Int.reduceNe,Nat.reduceBneDiff,Nat.reduceBEq,decide_false,gt_iff_lt,Bool.or_self,Bool.false_eq_true,Nat.mul_one,Nat.one_mul,Nat.zero_mul,↓reduceIte,Nat.reduceEqDiff,Nat.reduceLT,Nat.reduceAdd,Nat.reduceLeDiff,reduceCtorEq,goInt,pairs,isConst,TI.isAgg,splice,boxS,Edp,dpv,Nat.beq_eq,ZV.val,List.any_cons,List.any_nil,Bool.false_and]
  refine specCClosed hs0 ?_
  simp (disch := first | assumption | simp) only [↓sbD,sbU,tyB,Nat.reduceMul,Nat.reduceSub,Int.reduceEq,Int.reduceLT,Int.reduceLE,Int.reduceNe,Nat.reduceBneDiff,Nat.reduceBEq,decide_false,gt_iff_lt,Bool.or_self,Bool.false_eq_true,Nat.mul_one,Nat.one_mul,Nat.zero_mul,↓reduceIte,Nat.reduceEqDiff,Nat.reduceLT,Nat.reduceAdd,Nat.reduceLeDiff,reduceCtorEq,goInt,pairs,isConst,TI.isAgg,splice,boxS,Edp,dpv,Nat.beq_eq,ZV.val,List.any_cons,List.any_nil,Bool.false_and,not_bool,Bool.not_false,Bool.not_true]
  exact downS_here h
 ·refine call33 (by simp) ?_
  simp only [strip,bodyOf,Tryz.f33,getD_body,keepN,bareOp_mk,lessOp_mk,lapp_cons,lapp_nil,List.map_cons,List.map_nil,array_toList,↓reduceIte,Nat.reduceEqDiff,Bool.false_eq_true]
  simp only [con0] at gb
  simp (disch := first | assumption | simp) only [↓sbD,sbU,tyB,Nat.reduceMul,Nat.reduceSub,Int.reduceEq,Int.reduceLT,Int.reduceLE,Int.reduceNe,Nat.reduceBneDiff,Nat.reduceBEq,decide_false,gt_iff_lt,Bool.or_self,Bool.false_eq_true,Nat.mul_one,Nat.one_mul,Nat.zero_mul,↓reduceIte,Nat.reduceEqDiff,Nat.reduceLT,Nat.reduceAdd,Nat.reduceLeDiff,reduceCtorEq,goInt,pairs,isConst,TI.isAgg,splice,boxS,Edp,dpv,Nat.beq_eq,ZV.val,List.any_cons,List.any_nil,Bool.false_and,gb]
  refine specCClosed hs0 ?_
  simp (disch := first | assumption | simp) only [↓sbD,sbU,tyB,Nat.reduceMul,Nat.reduceSub,Int.reduceEq,Int.reduceLT,Int.reduceLE,Int.reduceNe,Nat.reduceBneDiff,Nat.reduceBEq,decide_false,gt_iff_lt,Bool.or_self,Bool.false_eq_true,Nat.mul_one,Nat.one_mul,Nat.zero_mul,↓reduceIte,Nat.reduceEqDiff,Nat.reduceLT,Nat.reduceAdd,Nat.reduceLeDiff,reduceCtorEq,goInt,pairs,isConst,TI.isAgg,splice,boxS,Edp,dpv,Nat.beq_eq,ZV.val,List.any_cons,List.any_nil,Bool.false_and,gb,not_bool,Bool.not_false,Bool.not_true]
  exact downS_here h
theorem specCHeard {n : Int} (hs : NC σ s) (h : Q unit σ) : CallS E B 35 [s,.int .i64 n] σ Q := by
 have hs0 := hs
 rcases hs with rfl | ⟨b,rfl,gb⟩
 ·refine call35 (by simp) ?_
  simp only [strip,bodyOf,Tryz.f35,getD_body,keepN,bareOp_mk,lessOp_mk,lapp_cons,lapp_nil,List.map_cons,List.map_nil,array_toList,↓reduceIte,Nat.reduceEqDiff,Bool.false_eq_true]
  simp (disch := first | assumption | simp) only [↓sbD,sbU,tyB,Nat.reduceMul,Nat.reduceSub,Int.reduceEq,Int.reduceLT,Int.reduceLE,Int.reduceNe,Nat.reduceBneDiff,Nat.reduceBEq,decide_false,gt_iff_lt,Bool.or_self,Bool.false_eq_true,Nat.mul_one,Nat.one_mul,Nat.zero_mul,↓reduceIte,Nat.reduceEqDiff,Nat.reduceLT,Nat.reduceAdd,Nat.reduceLeDiff,reduceCtorEq,goInt,pairs,isConst,TI.isAgg,splice,boxS,Edp,dpv,Nat.beq_eq,ZV.val,List.any_cons,List.any_nil,Bool.false_and]
  refine specCMade hs0 ?_
  simp (disch := first | assumption | simp) only [↓sbD,sbU,tyB,Nat.reduceMul,Nat.reduceSub,Int.reduceEq,Int.reduceLT,Int.reduceLE,Int.reduceNe,Nat.reduceBneDiff,Nat.reduceBEq,decide_false,gt_iff_lt,Bool.or_self,Bool.false_eq_true,Nat.mul_one,Nat.one_mul,Nat.zero_mul,↓reduceIte,Nat.reduceEqDiff,Nat.reduceLT,Nat.reduceAdd,Nat.reduceLeDiff,reduceCtorEq,goInt,pairs,isConst,TI.isAgg,splice,boxS,Edp,dpv,Nat.beq_eq,ZV.val,List.any_cons,List.any_nil,Bool.false_and,not_bool,Bool.not_false,Bool.not_true]
  exact downS_here h
 ·refine call35 (by simp) ?_
  simp only [strip,bodyOf,Tryz.f35,getD_body,keepN,bareOp_mk,lessOp_mk,lapp_cons,lapp_nil,List.map_cons,List.map_nil,array_toList,↓reduceIte,Nat.reduceEqDiff,Bool.false_eq_true]
  simp only [con0] at gb
  simp (disch := first | assumption | simp) only [↓sbD,sbU,tyB,Nat.reduceMul,Nat.reduceSub,Int.reduceEq,Int.reduceLT,Int.reduceLE,Int.reduceNe,Nat.reduceBneDiff,Nat.reduceBEq,decide_false,gt_iff_lt,Bool.or_self,Bool.false_eq_true,Nat.mul_one,Nat.one_mul,Nat.zero_mul,↓reduceIte,Nat.reduceEqDiff,Nat.reduceLT,Nat.reduceAdd,Nat.reduceLeDiff,reduceCtorEq,goInt,pairs,isConst,TI.isAgg,splice,boxS,Edp,dpv,Nat.beq_eq,ZV.val,List.any_cons,List.any_nil,Bool.false_and,gb]
  refine specCMade hs0 ?_
  simp (disch := first | assumption | simp) only [↓sbD,sbU,tyB,Nat.reduceMul,Nat.reduceSub,Int.reduceEq,Int.reduceLT,Int.reduceLE,Int.reduceNe,Nat.reduceBneDiff,Nat.reduceBEq,decide_false,gt_iff_lt,Bool.or_self,Bool.false_eq_true,Nat.mul_one,Nat.one_mul,Nat.zero_mul,↓reduceIte,Nat.reduceEqDiff,Nat.reduceLT,Nat.reduceAdd,Nat.reduceLeDiff,reduceCtorEq,goInt,pairs,isConst,TI.isAgg,splice,boxS,Edp,dpv,Nat.beq_eq,ZV.val,List.any_cons,List.any_nil,Bool.false_and,gb,not_bool,Bool.not_false,Bool.not_true]
  exact downS_here h
theorem specCSettle (hs : NC σ s) (h : Q (.slice none 0 0) σ) : CallS E B 39 [s] σ Q := by
 have hs0 := hs
 rcases hs with rfl | ⟨b,rfl,gb⟩
 ·refine call39 (by simp) ?_
  simp only [strip,bodyOf,Tryz.f39,getD_body,keepN,bareOp_mk,lessOp_mk,lapp_cons,lapp_nil,List.map_cons,List.map_nil,array_toList,↓reduceIte,Nat.reduceEqDiff,Bool.false_eq_true]
  simp (disch := first | assumption | simp) only [↓sbD,sbU,tyB,Nat.reduceMul,Nat.reduceSub,Int.reduceEq,Int.reduceLT,Int.reduceLE,Int.reduceNe,Nat.reduceBneDiff,Nat.reduceBEq,decide_false,gt_iff_lt,Bool.or_self,Bool.false_eq_true,Nat.mul_one,Nat.one_mul,Nat.zero_mul,↓reduceIte,Nat.reduceEqDiff,Nat.reduceLT,Nat.reduceAdd,Nat.reduceLeDiff,reduceCtorEq,goInt,pairs,isConst,TI.isAgg,splice,boxS,Edp,dpv,Nat.beq_eq,ZV.val,List.any_cons,List.any_nil,Bool.false_and]
  refine specCClosed hs0 ?_
  simp (disch := first | assumption | simp) only [↓sbD,sbU,tyB,Nat.reduceMul,Nat.reduceSub,Int.reduceEq,Int.reduceLT,Int.reduceLE,Int.reduceNe,Nat.reduceBneDiff,Nat.reduceBEq,decide_false,gt_iff_lt,Bool.or_self,Bool.false_eq_true,Nat.mul_one,Nat.one_mul,Nat.zero_mul,↓reduceIte,Nat.reduceEqDiff,Nat.reduceLT,Nat.reduceAdd,Nat.reduceLeDiff,reduceCtorEq,goInt,pairs,isConst,TI.isAgg,splice,boxS,Edp,dpv,Nat.beq_eq,ZV.val,List.any_cons,List.any_nil,Bool.false_and,not_bool,Bool.not_false,Bool.not_true]
  exact downS_here h
 ·refine call39 (by simp) ?_
  simp only [strip,bodyOf,Tryz.f39,getD_body,keepN,bareOp_mk,lessOp_mk,lapp_cons,lapp_nil,List.map_cons,List.map_nil,array_toList,↓reduceIte,Nat.reduceEqDiff,Bool.false_eq_true]
  simp only [con0] at gb
  simp (disch := first | assumption | simp) only [↓sbD,sbU,tyB,Nat.reduceMul,Nat.reduceSub,Int.reduceEq,Int.reduceLT,Int.reduceLE,Int.reduceNe,Nat.reduceBneDiff,Nat.reduceBEq,decide_false,gt_iff_lt,Bool.or_self,Bool.false_eq_true,Nat.mul_one,Nat.one_mul,Nat.zero_mul,↓reduceIte,Nat.reduceEqDiff,Nat.reduceLT,Nat.reduceAdd,Nat.reduceLeDiff,reduceCtorEq,goInt,pairs,isConst,TI.isAgg,splice,boxS,Edp,dpv,Nat.beq_eq,ZV.val,List.any_cons,List.any_nil,Bool.false_and,gb]
  refine specCClosed hs0 ?_
  simp (disch := first | assumption | simp) only [↓sbD,sbU,tyB,Nat.reduceMul,Nat.reduceSub,Int.reduceEq,Int.reduceLT,Int.reduceLE,Int.reduceNe,Nat.reduceBneDiff,Nat.reduceBEq,decide_false,gt_iff_lt,Bool.or_self,Bool.false_eq_true,Nat.mul_one,Nat.one_mul,Nat.zero_mul,↓reduceIte,Nat.reduceEqDiff,Nat.reduceLT,Nat.reduceAdd,Nat.reduceLeDiff,reduceCtorEq,goInt,pairs,isConst,TI.isAgg,splice,boxS,Edp,dpv,Nat.beq_eq,ZV.val,List.any_cons,List.any_nil,Bool.false_and,gb,not_bool,Bool.not_false,Bool.not_true]
  exact downS_here h
theorem specCFull (hs : NC σ s) (h : Q (.bool false) σ) : CallS E B 41 [s] σ Q := by
 have hs0 := hs
 rcases hs with rfl | ⟨b,rfl,gb⟩
 ·refine call41 (by simp) ?_
  simp only [strip,bodyOf,Tryz.f41,getD_body,keepN,bareOp_mk,lessOp_mk,lapp_cons,lapp_nil,List.map_cons,List.map_nil,array_toList,↓reduceIte,Nat.reduceEqDiff,Bool.false_eq_true]
  simp (disch := first | assumption | simp) only [↓sbD,sbU,tyB,Nat.reduceMul,Nat.reduceSub,Int.reduceEq,Int.reduceLT,Int.reduceLE,Int.reduceNe,Nat.reduceBneDiff,Nat.reduceBEq,decide_false,gt_iff_lt,Bool.or_self,Bool.false_eq_true,Nat.mul_one,Nat.one_mul,Nat.zero_mul,↓reduceIte,Nat.reduceEqDiff,Nat.reduceLT,Nat.reduceAdd,Nat.reduceLeDiff,reduceCtorEq,goInt,pairs,isConst,TI.isAgg,splice,boxS,Edp,dpv,Nat.beq_eq,ZV.val,List.any_cons,List.any_nil,Bool.false_and]
  refine specCClosed hs0 ?_
  simp (disch := first | assumption | simp) only [↓sbD,sbU,tyB,Nat.reduceMul,Nat.reduceSub,Int.reduceEq,Int.reduceLT,Int.reduceLE,Int.reduceNe,Nat.reduceBneDiff,Nat.reduceBEq,decide_false,gt_iff_lt,Bool.or_self,Bool.false_eq_true,Nat.mul_one,Nat.one_mul,Nat.zero_mul,↓reduceIte,Nat.reduceEqDiff,Nat.reduceLT,Nat.reduceAdd,Nat.reduceLeDiff,reduceCtorEq,goInt,pairs,isConst,TI.isAgg,splice,boxS,Edp,dpv,Nat.beq_eq,ZV.val,List.any_cons,List.any_nil,Bool.false_and,not_bool,Bool.not_false,Bool.not_true]
  exact downS_here h
 ·refine call41 (by simp) ?_
  simp only [strip,bodyOf,Tryz.f41,getD_body,keepN,bareOp_mk,lessOp_mk,lapp_cons,lapp_nil,List.map_cons,List.map_nil,array_toList,↓reduceIte,Nat.reduceEqDiff,Bool.false_eq_true]
  simp only [con0] at gb
  simp (disch := first | assumption | simp) only [↓sbD,sbU,tyB,Nat.reduceMul,Nat.reduceSub,Int.reduceEq,Int.reduceLT,Int.reduceLE,Int.reduceNe,Nat.reduceBneDiff,Nat.reduceBEq,decide_false,gt_iff_lt,Bool.or_self,Bool.false_eq_true,Nat.mul_one,Nat.one_mul,Nat.zero_mul,↓reduceIte,Nat.reduceEqDiff,Nat.reduceLT,Nat.reduceAdd,Nat.reduceLeDiff,reduceCtorEq,goInt,pairs,isConst,TI.isAgg,splice,boxS,Edp,dpv,Nat.beq_eq,ZV.val,List.any_cons,List.any_nil,Bool.false_and,gb]
  refine specCClosed hs0 ?_
  simp (disch := first | assumption | simp) only [↓sbD,sbU,tyB,Nat.reduceMul,Nat.reduceSub,Int.reduceEq,Int.reduceLT,Int.reduceLE,Int.reduceNe,Nat.reduceBneDiff,Nat.reduceBEq,decide_false,gt_iff_lt,Bool.or_self,Bool.false_eq_true,Nat.mul_one,Nat.one_mul,Nat.zero_mul,↓reduceIte,Nat.reduceEqDiff,Nat.reduceLT,Nat.reduceAdd,Nat.reduceLeDiff,reduceCtorEq,goInt,pairs,isConst,TI.isAgg,splice,boxS,Edp,dpv,Nat.beq_eq,ZV.val,List.any_cons,List.any_nil,Bool.false_and,gb,not_bool,Bool.not_false,Bool.not_true]
  exact downS_here h
theorem specCOut (hs : NC σ s) (h : Q (.string emp) σ) : CallS E B 43 [s] σ Q := by
 have hs0 := hs
 rcases hs with rfl | ⟨b,rfl,gb⟩
 ·refine call43 (by simp) ?_
  simp only [strip,bodyOf,Tryz.f43,getD_body,keepN,bareOp_mk,lessOp_mk,lapp_cons,lapp_nil,List.map_cons,List.map_nil,array_toList,↓reduceIte,Nat.reduceEqDiff,Bool.false_eq_true]
  simp (disch := first | assumption | simp) only [↓sbD,sbU,tyB,Nat.reduceMul,Nat.reduceSub,Int.reduceEq,Int.reduceLT,Int.reduceLE,Int.reduceNe,Nat.reduceBneDiff,Nat.reduceBEq,decide_false,gt_iff_lt,Bool.or_self,Bool.false_eq_true,Nat.mul_one,Nat.one_mul,Nat.zero_mul,↓reduceIte,Nat.reduceEqDiff,Nat.reduceLT,Nat.reduceAdd,Nat.reduceLeDiff,reduceCtorEq,goInt,pairs,isConst,TI.isAgg,splice,boxS,Edp,dpv,Nat.beq_eq,ZV.val,List.any_cons,List.any_nil,Bool.false_and]
  exact downS_here h
 ·refine call43 (by simp) ?_
  simp only [strip,bodyOf,Tryz.f43,getD_body,keepN,bareOp_mk,lessOp_mk,lapp_cons,lapp_nil,List.map_cons,List.map_nil,array_toList,↓reduceIte,Nat.reduceEqDiff,Bool.false_eq_true]
  simp only [con0] at gb
  simp (disch := first | assumption | simp) only [↓sbD,sbU,tyB,Nat.reduceMul,Nat.reduceSub,Int.reduceEq,Int.reduceLT,Int.reduceLE,Int.reduceNe,Nat.reduceBneDiff,Nat.reduceBEq,decide_false,gt_iff_lt,Bool.or_self,Bool.false_eq_true,Nat.mul_one,Nat.one_mul,Nat.zero_mul,↓reduceIte,Nat.reduceEqDiff,Nat.reduceLT,Nat.reduceAdd,Nat.reduceLeDiff,reduceCtorEq,goInt,pairs,isConst,TI.isAgg,splice,boxS,Edp,dpv,Nat.beq_eq,ZV.val,List.any_cons,List.any_nil,Bool.false_and,gb]
  exact downS_here h
theorem specCClient (hs : NC σ s) (h : Q (.string emp) σ) : CallS E B 46 [s] σ Q := by
 have hs0 := hs
 rcases hs with rfl | ⟨b,rfl,gb⟩
 ·refine call46 (by simp) ?_
  simp only [strip,bodyOf,Tryz.f46,getD_body,keepN,bareOp_mk,lessOp_mk,lapp_cons,lapp_nil,List.map_cons,List.map_nil,array_toList,↓reduceIte,Nat.reduceEqDiff,Bool.false_eq_true]
  simp (disch := first | assumption | simp) only [↓sbD,sbU,tyB,Nat.reduceMul,Nat.reduceSub,Int.reduceEq,Int.reduceLT,Int.reduceLE,Int.reduceNe,Nat.reduceBneDiff,Nat.reduceBEq,decide_false,gt_iff_lt,Bool.or_self,Bool.false_eq_true,Nat.mul_one,Nat.one_mul,Nat.zero_mul,↓reduceIte,Nat.reduceEqDiff,Nat.reduceLT,Nat.reduceAdd,Nat.reduceLeDiff,reduceCtorEq,goInt,pairs,isConst,TI.isAgg,splice,boxS,Edp,dpv,Nat.beq_eq,ZV.val,List.any_cons,List.any_nil,Bool.false_and]
  exact downS_here h
 ·refine call46 (by simp) ?_
  simp only [strip,bodyOf,Tryz.f46,getD_body,keepN,bareOp_mk,lessOp_mk,lapp_cons,lapp_nil,List.map_cons,List.map_nil,array_toList,↓reduceIte,Nat.reduceEqDiff,Bool.false_eq_true]
  simp only [con0] at gb
  simp (disch := first | assumption | simp) only [↓sbD,sbU,tyB,Nat.reduceMul,Nat.reduceSub,Int.reduceEq,Int.reduceLT,Int.reduceLE,Int.reduceNe,Nat.reduceBneDiff,Nat.reduceBEq,decide_false,gt_iff_lt,Bool.or_self,Bool.false_eq_true,Nat.mul_one,Nat.one_mul,Nat.zero_mul,↓reduceIte,Nat.reduceEqDiff,Nat.reduceLT,Nat.reduceAdd,Nat.reduceLeDiff,reduceCtorEq,goInt,pairs,isConst,TI.isAgg,splice,boxS,Edp,dpv,Nat.beq_eq,ZV.val,List.any_cons,List.any_nil,Bool.false_and,gb]
  exact downS_here h
theorem specCLate {n : Int} (hs : NC σ s) (h : Q (.bool false) σ) : CallS E B 44 [s,.int .i64 n] σ Q := by
 refine call44 (by simp) ?_
 simp only [strip,bodyOf,Tryz.f44,getD_body,keepN,bareOp_mk,lessOp_mk,lapp_cons,lapp_nil,List.map_cons,List.map_nil,array_toList,↓reduceIte,Nat.reduceEqDiff,Bool.false_eq_true]
 simp (disch := first | assumption | simp) only [↓sbD,sbU,tyB,Nat.reduceMul,Nat.reduceSub,Int.reduceEq,Int.reduceLT,Int.reduceLE,Int.reduceNe,Nat.reduceBneDiff,Nat.reduceBEq,decide_false,gt_iff_lt,Bool.or_self,Bool.false_eq_true,Nat.mul_one,Nat.one_mul,Nat.zero_mul,↓reduceIte,Nat.reduceEqDiff,Nat.reduceLT,Nat.reduceAdd,Nat.reduceLeDiff,reduceCtorEq,goInt,pairs,isConst,TI.isAgg,splice,boxS,Edp,dpv,Nat.beq_eq,ZV.val,List.any_cons,List.any_nil,Bool.false_and]
 refine specCClosed hs ?_
 simp (disch := first | assumption | simp) only [↓sbD,sbU,tyB,Nat.reduceMul,Nat.reduceSub,Int.reduceEq,Int.reduceLT,Int.reduceLE,Int.reduceNe,Nat.reduceBneDiff,Nat.reduceBEq,decide_false,gt_iff_lt,Bool.or_self,Bool.false_eq_true,Nat.mul_one,Nat.one_mul,Nat.zero_mul,↓reduceIte,Nat.reduceEqDiff,Nat.reduceLT,Nat.reduceAdd,Nat.reduceLeDiff,reduceCtorEq,goInt,pairs,isConst,TI.isAgg,splice,boxS,Edp,dpv,Nat.beq_eq,ZV.val,List.any_cons,List.any_nil,Bool.false_and,not_bool,Bool.not_true]
 refine drawS_l (fl := [(17,13),(23,13)]) (by kernel_rfl) ?_ ?_
 rotate_left; simp only [lastP_cc,lastP_one]; rotate_left
 ·simp only [List.all_cons,List.all_nil,floatS,List.getElem?_cons_succ,List.getElem?_cons_zero,List.getElem?_toArray,Region.wanted,Bool.not_true,Bool.not_false,Bool.false_or,Bool.true_or,Bool.or_true,Bool.true_and,reads,looksWeak,aev_tmp,aev_const,upd_at,↓reduceIte,Nat.reduceEqDiff,Nat.reduceLT,Nat.reduceAdd,ofL_zero,ofL_succ,blkOf,oeq_refl,oeq_of,dead_cells,dead_map,Bool.and_true,Bool.and_self,Bool.false_eq_true,Bool.not_false,yield_list,yield_here,yield_next,truth_bool]
  try rfl
 simp (disch := first | assumption | simp) only [↓sbD,sbU,tyB,Nat.reduceMul,Nat.reduceSub,Int.reduceEq,Int.reduceLT,Int.reduceLE,Int.reduceNe,Nat.reduceBneDiff,Nat.reduceBEq,decide_false,gt_iff_lt,Bool.or_self,Bool.false_eq_true,Nat.mul_one,Nat.one_mul,Nat.zero_mul,↓reduceIte,Nat.reduceEqDiff,Nat.reduceLT,Nat.reduceAdd,Nat.reduceLeDiff,reduceCtorEq,goInt,pairs,isConst,TI.isAgg,splice,boxS,Edp,dpv,Nat.beq_eq,ZV.val,List.any_cons,List.any_nil,Bool.false_and]
 exact downS_here h
theorem slE {τ : AHeap} : aslice E τ 9 (.string emp) none (some (.int .i64 0)) none = some (.string emp) := rfl
theorem specCDrain {n : Int} (hs : NC σ s) (h : Q (.string emp) σ) : CallS E B 42 [s,.int .i64 n] σ Q := by
 have h00 : ((0 : Nat) : Int) = 0 := rfl
 have hez : (emp).size = 0 := rfl
 by_cases hn : 0 < n
 ·refine call42 (by simp) ?_
  simp only [strip,bodyOf,Tryz.f42,getD_body,keepN,bareOp_mk,lessOp_mk,lapp_cons,lapp_nil,List.map_cons,List.map_nil,array_toList,↓reduceIte,Nat.reduceEqDiff,Bool.false_eq_true]
  simp (disch := first | assumption | simp) only [↓sbD,sbU,tyB,Nat.reduceMul,Nat.reduceSub,Int.reduceEq,Int.reduceLT,Int.reduceLE,Int.reduceNe,Nat.reduceBneDiff,Nat.reduceBEq,decide_false,gt_iff_lt,Bool.or_self,Bool.false_eq_true,Nat.mul_one,Nat.one_mul,Nat.zero_mul,↓reduceIte,Nat.reduceEqDiff,Nat.reduceLT,Nat.reduceAdd,Nat.reduceLeDiff,reduceCtorEq,goInt,pairs,isConst,TI.isAgg,splice,boxS,Edp,dpv,Nat.beq_eq,ZV.val,List.any_cons,List.any_nil,Bool.false_and]
  refine specCOut hs ?_
  simp (disch := first | assumption | simp) only [↓sbD,sbU,tyB,Nat.reduceMul,Nat.reduceSub,Int.reduceEq,Int.reduceLT,Int.reduceLE,Int.reduceNe,Nat.reduceBneDiff,Nat.reduceBEq,decide_false,gt_iff_lt,Bool.or_self,Bool.false_eq_true,Nat.mul_one,Nat.one_mul,Nat.zero_mul,↓reduceIte,Nat.reduceEqDiff,Nat.reduceLT,Nat.reduceAdd,Nat.reduceLeDiff,reduceCtorEq,goInt,pairs,isConst,TI.isAgg,splice,boxS,Edp,dpv,Nat.beq_eq,ZV.val,List.any_cons,List.any_nil,Bool.false_and,hez,h00,hn,Int.lt_irrefl,slE]
  exact downS_here h
 ·refine call42 (by simp) ?_
  simp only [strip,bodyOf,Tryz.f42,getD_body,keepN,bareOp_mk,lessOp_mk,lapp_cons,lapp_nil,List.map_cons,List.map_nil,array_toList,↓reduceIte,Nat.reduceEqDiff,Bool.false_eq_true]
  simp (disch := first | assumption | simp) only [↓sbD,sbU,tyB,Nat.reduceMul,Nat.reduceSub,Int.reduceEq,Int.reduceLT,Int.reduceLE,Int.reduceNe,Nat.reduceBneDiff,Nat.reduceBEq,decide_false,gt_iff_lt,Bool.or_self,Bool.false_eq_true,Nat.mul_one,Nat.one_mul,Nat.zero_mul,↓reduceIte,Nat.reduceEqDiff,Nat.reduceLT,Nat.reduceAdd,Nat.reduceLeDiff,reduceCtorEq,goInt,pairs,isConst,TI.isAgg,splice,boxS,Edp,dpv,Nat.beq_eq,ZV.val,List.any_cons,List.any_nil,Bool.false_and]
  refine specCOut hs ?_
  simp (disch := first | assumption | simp) only [↓sbD,sbU,tyB,Nat.reduceMul,Nat.reduceSub,Int.reduceEq,Int.reduceLT,Int.reduceLE,Int.reduceNe,Nat.reduceBneDiff,Nat.reduceBEq,decide_false,gt_iff_lt,Bool.or_self,Bool.false_eq_true,Nat.mul_one,Nat.one_mul,Nat.zero_mul,↓reduceIte,Nat.reduceEqDiff,Nat.reduceLT,Nat.reduceAdd,Nat.reduceLeDiff,reduceCtorEq,goInt,pairs,isConst,TI.isAgg,splice,boxS,Edp,dpv,Nat.beq_eq,ZV.val,List.any_cons,List.any_nil,Bool.false_and,hez,h00,hn,Int.lt_irrefl,slE]
  exact downS_here h
theorem specCOwes (hs : NC σ s) (h : Q (.slice none 0 0) σ) : CallS E B 40 [s] σ Q := by
 rcases hs with rfl | ⟨b,rfl,gb⟩
 ·refine call40 (by simp) ?_
  simp only [strip,bodyOf,Tryz.f40,getD_body,keepN,bareOp_mk,lessOp_mk,lapp_cons,lapp_nil,List.map_cons,List.map_nil,array_toList,↓reduceIte,Nat.reduceEqDiff,Bool.false_eq_true]
  simp (disch := first | assumption | simp) only [↓sbD,sbU,tyB,Nat.reduceMul,Nat.reduceSub,Int.reduceEq,Int.reduceLT,Int.reduceLE,Int.reduceNe,Nat.reduceBneDiff,Nat.reduceBEq,decide_false,gt_iff_lt,Bool.or_self,Bool.false_eq_true,Nat.mul_one,Nat.one_mul,Nat.zero_mul,↓reduceIte,Nat.reduceEqDiff,Nat.reduceLT,Nat.reduceAdd,Nat.reduceLeDiff,reduceCtorEq,goInt,pairs,isConst,TI.isAgg,splice,boxS,Edp,dpv,Nat.beq_eq,ZV.val,List.any_cons,List.any_nil,Bool.false_and]
  exact downS_here h
 ·simp only [con0] at gb
  have h00 : ((0 : Nat) : Int) = 0 := rfl
  refine call40 (by simp) ?_
  simp only [strip,bodyOf,Tryz.f40,getD_body,keepN,bareOp_mk,lessOp_mk,lapp_cons,lapp_nil,List.map_cons,List.map_nil,array_toList,↓reduceIte,Nat.reduceEqDiff,Bool.false_eq_true]
  simp (disch := first | assumption | simp) only [↓sbD,sbU,tyB,Nat.reduceMul,Nat.reduceSub,Int.reduceEq,Int.reduceLT,Int.reduceLE,Int.reduceNe,Nat.reduceBneDiff,Nat.reduceBEq,decide_false,gt_iff_lt,Bool.or_self,Bool.false_eq_true,Nat.mul_one,Nat.one_mul,Nat.zero_mul,↓reduceIte,Nat.reduceEqDiff,Nat.reduceLT,Nat.reduceAdd,Nat.reduceLeDiff,reduceCtorEq,goInt,pairs,isConst,TI.isAgg,splice,boxS,Edp,dpv,Nat.beq_eq,ZV.val,List.any_cons,List.any_nil,Bool.false_and,gb,h00]
  refine S_loop (fun m f σ' => σ' = σ ∧ f 13 = .int .i64 0 ∧ f 12 = .int .i64 0 ∧ f 3 = .slice none 0 0) 0 (Le.refl _) ⟨rfl,by simp (disch := first | assumption | simp) only [↓sbD,sbU,tyB,Nat.reduceMul,Nat.reduceSub,Int.reduceEq,Int.reduceLT,Int.reduceLE,Int.reduceNe,Nat.reduceBneDiff,Nat.reduceBEq,decide_false,gt_iff_lt,Bool.or_self,Bool.false_eq_true,Nat.mul_one,Nat.one_mul,Nat.zero_mul,↓reduceIte,Nat.reduceEqDiff,Nat.reduceLT,Nat.reduceAdd,Nat.reduceLeDiff,reduceCtorEq,goInt,pairs,isConst,TI.isAgg,splice,boxS,Edp,dpv,Nat.beq_eq,ZV.val,List.any_cons,List.any_nil,Bool.false_and],by simp (disch := first | assumption | simp) only [↓sbD,sbU,tyB,Nat.reduceMul,Nat.reduceSub,Int.reduceEq,Int.reduceLT,Int.reduceLE,Int.reduceNe,Nat.reduceBneDiff,Nat.reduceBEq,decide_false,gt_iff_lt,Bool.or_self,Bool.false_eq_true,Nat.mul_one,Nat.one_mul,Nat.zero_mul,↓reduceIte,Nat.reduceEqDiff,Nat.reduceLT,Nat.reduceAdd,Nat.reduceLeDiff,reduceCtorEq,goInt,pairs,isConst,TI.isAgg,splice,boxS,Edp,dpv,Nat.beq_eq,ZV.val,List.any_cons,List.any_nil,Bool.false_and],by simp (disch := first | assumption | simp) only [↓sbD,sbU,tyB,Nat.reduceMul,Nat.reduceSub,Int.reduceEq,Int.reduceLT,Int.reduceLE,Int.reduceNe,Nat.reduceBneDiff,Nat.reduceBEq,decide_false,gt_iff_lt,Bool.or_self,Bool.false_eq_true,Nat.mul_one,Nat.one_mul,Nat.zero_mul,↓reduceIte,Nat.reduceEqDiff,Nat.reduceLT,Nat.reduceAdd,Nat.reduceLeDiff,reduceCtorEq,goInt,pairs,isConst,TI.isAgg,splice,boxS,Edp,dpv,Nat.beq_eq,ZV.val,List.any_cons,List.any_nil,Bool.false_and]⟩ ?_
  rintro m f σ' ⟨rfl,f13,f12,f3⟩ hf
  simp (disch := first | assumption | simp) only [↓sbD,sbU,tyB,Nat.reduceMul,Nat.reduceSub,Int.reduceEq,Int.reduceLT,Int.reduceLE,Int.reduceNe,Nat.reduceBneDiff,Nat.reduceBEq,decide_false,gt_iff_lt,Bool.or_self,Bool.false_eq_true,Nat.mul_one,Nat.one_mul,Nat.zero_mul,↓reduceIte,Nat.reduceEqDiff,Nat.reduceLT,Nat.reduceAdd,Nat.reduceLeDiff,reduceCtorEq,goInt,pairs,isConst,TI.isAgg,splice,boxS,Edp,dpv,Nat.beq_eq,ZV.val,List.any_cons,List.any_nil,Bool.false_and,f13,f12,f3]
  exact downS_here h
theorem specCBegin {t : Tm} {x : ByteArray} (hs : NC σ s) (hq : ∀ σ',Kept σ [] σ' [] → Q unit σ') : CallS E B 34 [s,.string x,.agg ⟨tmC t⟩] σ Q := by
 simp only [tmC]
 refine call34 (by simp) ?_
 simp only [strip,bodyOf,Tryz.f34,getD_body,keepN,bareOp_mk,lessOp_mk,lapp_cons,lapp_nil,List.map_cons,List.map_nil,array_toList,↓reduceIte,Nat.reduceEqDiff,Bool.false_eq_true]
 simp (disch := first | assumption | simp) only [↓sbD,sbU,tyB,Nat.reduceMul,Nat.reduceSub,Int.reduceEq,Int.reduceLT,Int.reduceLE,Int.reduceNe,Nat.reduceBneDiff,Nat.reduceBEq,decide_false,gt_iff_lt,Bool.or_self,Bool.false_eq_true,Nat.mul_one,Nat.one_mul,Nat.zero_mul,↓reduceIte,Nat.reduceEqDiff,Nat.reduceLT,Nat.reduceAdd,Nat.reduceLeDiff,reduceCtorEq,goInt,pairs,isConst,TI.isAgg,splice,boxS,Edp,dpv,Nat.beq_eq,ZV.val,List.any_cons,List.any_nil,Bool.false_and,AS_new,ndC.2.1]
 intro c hc
 have k1 : ∀ o,Kept σ [] (σ.set c o) [] := fun o => (Kept.refl σ []).setD hc
 try simp (disch := first | assumption | simp) only [↓sbD,sbU,tyB,Nat.reduceMul,Nat.reduceSub,Int.reduceEq,Int.reduceLT,Int.reduceLE,Int.reduceNe,Nat.reduceBneDiff,Nat.reduceBEq,decide_false,gt_iff_lt,Bool.or_self,Bool.false_eq_true,Nat.mul_one,Nat.one_mul,Nat.zero_mul,↓reduceIte,Nat.reduceEqDiff,Nat.reduceLT,Nat.reduceAdd,Nat.reduceLeDiff,reduceCtorEq,goInt,pairs,isConst,TI.isAgg,splice,boxS,Edp,dpv,Nat.beq_eq,ZV.val,List.any_cons,List.any_nil,Bool.false_and]
 refine specCMade (hs.kept (k1 _)) ?_
 simp (disch := first | assumption | simp) only [↓sbD,sbU,tyB,Nat.reduceMul,Nat.reduceSub,Int.reduceEq,Int.reduceLT,Int.reduceLE,Int.reduceNe,Nat.reduceBneDiff,Nat.reduceBEq,decide_false,gt_iff_lt,Bool.or_self,Bool.false_eq_true,Nat.mul_one,Nat.one_mul,Nat.zero_mul,↓reduceIte,Nat.reduceEqDiff,Nat.reduceLT,Nat.reduceAdd,Nat.reduceLeDiff,reduceCtorEq,goInt,pairs,isConst,TI.isAgg,splice,boxS,Edp,dpv,Nat.beq_eq,ZV.val,List.any_cons,List.any_nil,Bool.false_and]
 exact downS_here (hq _ (k1 _))
theorem specCNext (hs : NC σ s) (hq : ∀ σ',Kept σ [] σ' [] → Q (.tuple #[.agg ⟨[.int .i64 0,.int .i64 0,.int .i64 0,.slice none 0 0,.bool false,.int .i64 0,.string emp,.bool false,.string emp,.string emp,.int .i64 0,.bool false,.slice none 0 0,.bool false,.string emp,.bool false,.string emp,.bool false,.string emp,.string emp,.int .i64 0,.bool false,.bool false,.slice none 0 0,.slice none 0 0,.slice none 0 0]⟩,.bool false,.nilIface]) σ') : CallS E B 36 [s] σ Q := by
 refine call36 (by simp) ?_
 simp only [strip,bodyOf,Tryz.f36,getD_body,keepN,bareOp_mk,lessOp_mk,lapp_cons,lapp_nil,List.map_cons,List.map_nil,array_toList,↓reduceIte,Nat.reduceEqDiff,Bool.false_eq_true]
 simp (disch := first | assumption | simp) only [↓sbD,sbU,tyB,Nat.reduceMul,Nat.reduceSub,Int.reduceEq,Int.reduceLT,Int.reduceLE,Int.reduceNe,Nat.reduceBneDiff,Nat.reduceBEq,decide_false,gt_iff_lt,Bool.or_self,Bool.false_eq_true,Nat.mul_one,Nat.one_mul,Nat.zero_mul,↓reduceIte,Nat.reduceEqDiff,Nat.reduceLT,Nat.reduceAdd,Nat.reduceLeDiff,reduceCtorEq,goInt,pairs,isConst,TI.isAgg,splice,boxS,Edp,dpv,Nat.beq_eq,ZV.val,List.any_cons,List.any_nil,Bool.false_and,AS_new,zePkC]
 intro c hc
 have k1 : ∀ o,Kept σ [] (σ.set c o) [] := fun o => (Kept.refl σ []).setD hc
 try simp (disch := first | assumption | simp) only [↓sbD,sbU,tyB,Nat.reduceMul,Nat.reduceSub,Int.reduceEq,Int.reduceLT,Int.reduceLE,Int.reduceNe,Nat.reduceBneDiff,Nat.reduceBEq,decide_false,gt_iff_lt,Bool.or_self,Bool.false_eq_true,Nat.mul_one,Nat.one_mul,Nat.zero_mul,↓reduceIte,Nat.reduceEqDiff,Nat.reduceLT,Nat.reduceAdd,Nat.reduceLeDiff,reduceCtorEq,goInt,pairs,isConst,TI.isAgg,splice,boxS,Edp,dpv,Nat.beq_eq,ZV.val,List.any_cons,List.any_nil,Bool.false_and]
 refine specCClosed (hs.kept (k1 _)) ?_
 simp (disch := first | assumption | simp) only [↓sbD,sbU,tyB,Nat.reduceMul,Nat.reduceSub,Int.reduceEq,Int.reduceLT,Int.reduceLE,Int.reduceNe,Nat.reduceBneDiff,Nat.reduceBEq,decide_false,gt_iff_lt,Bool.or_self,Bool.false_eq_true,Nat.mul_one,Nat.one_mul,Nat.zero_mul,↓reduceIte,Nat.reduceEqDiff,Nat.reduceLT,Nat.reduceAdd,Nat.reduceLeDiff,reduceCtorEq,goInt,pairs,isConst,TI.isAgg,splice,boxS,Edp,dpv,Nat.beq_eq,ZV.val,List.any_cons,List.any_nil,Bool.false_and,zePkC,AHeap.get_set_same,res_cellc,resC_some]
 exact downS_here (hq _ ((k1 _).setD hc))
theorem specCTerms (hs : NC σ s) (hq : ∀ σ',Kept σ [] σ' [] → Q (.agg ⟨[.int .i64 0,.int .i64 0,.int .i64 0,.int .i64 0,.int .i64 0,.bool false]⟩) σ') : CallS E B 47 [s] σ Q := by
 rcases hs with rfl | ⟨b,rfl,gb⟩
 ·refine call47 (by simp) ?_
  simp only [strip,bodyOf,Tryz.f47,getD_body,keepN,bareOp_mk,lessOp_mk,lapp_cons,lapp_nil,List.map_cons,List.map_nil,array_toList,↓reduceIte,Nat.reduceEqDiff,Bool.false_eq_true]
  simp (disch := first | assumption | simp) only [↓sbD,sbU,tyB,Nat.reduceMul,Nat.reduceSub,Int.reduceEq,Int.reduceLT,Int.reduceLE,Int.reduceNe,Nat.reduceBneDiff,Nat.reduceBEq,decide_false,gt_iff_lt,Bool.or_self,Bool.false_eq_true,Nat.mul_one,Nat.one_mul,Nat.zero_mul,↓reduceIte,Nat.reduceEqDiff,Nat.reduceLT,Nat.reduceAdd,Nat.reduceLeDiff,reduceCtorEq,goInt,pairs,isConst,TI.isAgg,splice,boxS,Edp,dpv,Nat.beq_eq,ZV.val,List.any_cons,List.any_nil,Bool.false_and,AS_new,zeTmC]
  intro c hc
  try simp (disch := first | assumption | simp) only [↓sbD,sbU,tyB,Nat.reduceMul,Nat.reduceSub,Int.reduceEq,Int.reduceLT,Int.reduceLE,Int.reduceNe,Nat.reduceBneDiff,Nat.reduceBEq,decide_false,gt_iff_lt,Bool.or_self,Bool.false_eq_true,Nat.mul_one,Nat.one_mul,Nat.zero_mul,↓reduceIte,Nat.reduceEqDiff,Nat.reduceLT,Nat.reduceAdd,Nat.reduceLeDiff,reduceCtorEq,goInt,pairs,isConst,TI.isAgg,splice,boxS,Edp,dpv,Nat.beq_eq,ZV.val,List.any_cons,List.any_nil,Bool.false_and,zeTmC,AHeap.get_set_same,res_cellc,resC_some]
  exact downS_here (hq _ (((Kept.refl σ []).setD hc).setD hc))
 ·simp only [con0] at gb
  refine call47 (by simp) ?_
  simp only [strip,bodyOf,Tryz.f47,getD_body,keepN,bareOp_mk,lessOp_mk,lapp_cons,lapp_nil,List.map_cons,List.map_nil,array_toList,↓reduceIte,Nat.reduceEqDiff,Bool.false_eq_true]
  simp (disch := first | assumption | simp) only [↓sbD,sbU,tyB,Nat.reduceMul,Nat.reduceSub,Int.reduceEq,Int.reduceLT,Int.reduceLE,Int.reduceNe,Nat.reduceBneDiff,Nat.reduceBEq,decide_false,gt_iff_lt,Bool.or_self,Bool.false_eq_true,Nat.mul_one,Nat.one_mul,Nat.zero_mul,↓reduceIte,Nat.reduceEqDiff,Nat.reduceLT,Nat.reduceAdd,Nat.reduceLeDiff,reduceCtorEq,goInt,pairs,isConst,TI.isAgg,splice,boxS,Edp,dpv,Nat.beq_eq,ZV.val,List.any_cons,List.any_nil,Bool.false_and,AS_new,zeTmC]
  intro c hc
  have hcb : c ≠ b := nd hc gb (by simp)
  have gb' : ∀ o,(AHeap.set σ c o).get b = σ.get b := fun o => AHeap.get_set_ne _ _ hcb
  simp (disch := first | assumption | simp) only [↓sbD,sbU,tyB,Nat.reduceMul,Nat.reduceSub,Int.reduceEq,Int.reduceLT,Int.reduceLE,Int.reduceNe,Nat.reduceBneDiff,Nat.reduceBEq,decide_false,gt_iff_lt,Bool.or_self,Bool.false_eq_true,Nat.mul_one,Nat.one_mul,Nat.zero_mul,↓reduceIte,Nat.reduceEqDiff,Nat.reduceLT,Nat.reduceAdd,Nat.reduceLeDiff,reduceCtorEq,goInt,pairs,isConst,TI.isAgg,splice,boxS,Edp,dpv,Nat.beq_eq,ZV.val,List.any_cons,List.any_nil,Bool.false_and,gb',gb,AHeap.get_set_same,res_cellc,resC_some]
  exact downS_here (hq _ (((Kept.refl σ []).setD hc).setD hc))
theorem specCSend {p : Pk} {vp vw vs vf vc : Value} (d1 : DL propC 4 vp p.props) (d2 : DL propC 4 vw p.will.props) (d3 : DL subC 5 vs p.subs) (d4 : DL strC1 1 vf p.filts) (d5 : DL intC 1 vc p.codes) (hs : NC σ s) (h : Q (.bool false) σ) : CallS E B 37 [s,.agg ⟨pkC p vp vw vs vf vc⟩] σ Q := by
 obtain ⟨up,uw,us,uf,uc,d1,d2,d3,d4,d5,-,hbx⟩ := boxPk d1 d2 d3 d4 d5
 simp only [pkC] at hbx ⊢
 refine call37 (by simp) ?_
 simp only [strip,bodyOf,Tryz.f37,getD_body,keepN,bareOp_mk,lessOp_mk,lapp_cons,lapp_nil,List.map_cons,List.map_nil,array_toList,↓reduceIte,Nat.reduceEqDiff,Bool.false_eq_true]
 simp (disch := first | assumption | simp) only [↓sbD,sbU,tyB,Nat.reduceMul,Nat.reduceSub,Int.reduceEq,Int.reduceLT,Int.reduceLE,Int.reduceNe,Nat.reduceBneDiff,Nat.reduceBEq,decide_false,gt_iff_lt,Bool.or_self,Bool.false_eq_true,Nat.mul_one,Nat.one_mul,Nat.zero_mul,↓reduceIte,Nat.reduceEqDiff,Nat.reduceLT,Nat.reduceAdd,Nat.reduceLeDiff,reduceCtorEq,goInt,pairs,isConst,TI.isAgg,splice,Edp,dpv,Nat.beq_eq,ZV.val,List.any_cons,List.any_nil,Bool.false_and,hbx]
 refine specCClosed hs ?_
 simp (disch := first | assumption | simp) only [↓sbD,sbU,tyB,Nat.reduceMul,Nat.reduceSub,Int.reduceEq,Int.reduceLT,Int.reduceLE,Int.reduceNe,Nat.reduceBneDiff,Nat.reduceBEq,decide_false,gt_iff_lt,Bool.or_self,Bool.false_eq_true,Nat.mul_one,Nat.one_mul,Nat.zero_mul,↓reduceIte,Nat.reduceEqDiff,Nat.reduceLT,Nat.reduceAdd,Nat.reduceLeDiff,reduceCtorEq,goInt,pairs,isConst,TI.isAgg,splice,boxS,Edp,dpv,Nat.beq_eq,ZV.val,List.any_cons,List.any_nil,Bool.false_and]
 exact downS_here h
theorem specCAnswer {p : Pk} {vp vw vs vf vc : Value} {r : Bool} (d1 : DL propC 4 vp p.props) (d2 : DL propC 4 vw p.will.props) (d3 : DL subC 5 vs p.subs) (d4 : DL strC1 1 vf p.filts) (d5 : DL intC 1 vc p.codes) (hs : NC σ s) (h : Q (.slice none 0 0) σ) : CallS E B 38 [s,.agg ⟨pkC p vp vw vs vf vc⟩,.bool r] σ Q := by
 obtain ⟨up,uw,us,uf,uc,d1,d2,d3,d4,d5,-,hbx⟩ := boxPk d1 d2 d3 d4 d5
 simp only [pkC] at hbx ⊢
 refine call38 (by simp) ?_
 simp only [strip,bodyOf,Tryz.f38,getD_body,keepN,bareOp_mk,lessOp_mk,lapp_cons,lapp_nil,List.map_cons,List.map_nil,array_toList,↓reduceIte,Nat.reduceEqDiff,Bool.false_eq_true]
 simp (disch := first | assumption | simp) only [↓sbD,sbU,tyB,Nat.reduceMul,Nat.reduceSub,Int.reduceEq,Int.reduceLT,Int.reduceLE,Int.reduceNe,Nat.reduceBneDiff,Nat.reduceBEq,decide_false,gt_iff_lt,Bool.or_self,Bool.false_eq_true,Nat.mul_one,Nat.one_mul,Nat.zero_mul,↓reduceIte,Nat.reduceEqDiff,Nat.reduceLT,Nat.reduceAdd,Nat.reduceLeDiff,reduceCtorEq,goInt,pairs,isConst,TI.isAgg,splice,Edp,dpv,Nat.beq_eq,ZV.val,List.any_cons,List.any_nil,Bool.false_and,hbx]
 refine specCClosed hs ?_
 simp (disch := first | assumption | simp) only [↓sbD,sbU,tyB,Nat.reduceMul,Nat.reduceSub,Int.reduceEq,Int.reduceLT,Int.reduceLE,Int.reduceNe,Nat.reduceBneDiff,Nat.reduceBEq,decide_false,gt_iff_lt,Bool.or_self,Bool.false_eq_true,Nat.mul_one,Nat.one_mul,Nat.zero_mul,↓reduceIte,Nat.reduceEqDiff,Nat.reduceLT,Nat.reduceAdd,Nat.reduceLeDiff,reduceCtorEq,goInt,pairs,isConst,TI.isAgg,splice,boxS,Edp,dpv,Nat.beq_eq,ZV.val,List.any_cons,List.any_nil,Bool.false_and]
 exact downS_here h
def topN (t : ByteArray) (n : Int) : Option Nat := if n ≠ 0 then some 148 else if t = emp then some 130 else none
theorem specAMay {n : Int} (h : Q (.bool false) σ) : CallS E B 164 [.pointer none,.int .i64 n] σ Q := by
 refine call164 (by simp) ?_
 simp only [strip,bodyOf,Tryz.f164,getD_body,keepN,bareOp_mk,lessOp_mk,lapp_cons,lapp_nil,List.map_cons,List.map_nil,array_toList,↓reduceIte,Nat.reduceEqDiff,Bool.false_eq_true]
 simp (disch := first | assumption | simp) only [↓sbD,sbU,tyB,Nat.reduceMul,Nat.reduceSub,Int.reduceEq,Int.reduceLT,Int.reduceLE,Int.reduceNe,Nat.reduceBneDiff,Nat.reduceBEq,decide_false,gt_iff_lt,Bool.or_self,Bool.false_eq_true,Nat.mul_one,Nat.one_mul,Nat.zero_mul,↓reduceIte,Nat.reduceEqDiff,Nat.reduceLT,Nat.reduceAdd,Nat.reduceLeDiff,reduceCtorEq,goInt,pairs,isConst,TI.isAgg,splice,boxS,Edp,dpv,Nat.beq_eq,ZV.val,List.any_cons,List.any_nil,Bool.false_and]
 exact downS_here h
theorem specATopic {t : ByteArray} {n : Int} (hn : ∀ r : Nat,topN t n = some r → Q (.tuple #[.string emp,fv r 0 (sent 3)]) σ) (hy : topN t n = none → Q (.tuple #[.string t,.nilIface]) σ) : CallS E B 104 [.pointer none,.string t,.int .i64 n] σ Q := by
 unfold topN at hn hy
 by_cases h0 : n = 0
 ·have h0' : ¬ n ≠ 0 := fun h => h h0
  by_cases ht : t = emp
  ·have ht' : t = (⟨#[]⟩ : ByteArray) := ht
   have := hn 130 (by rw [if_neg h0',if_pos ht])
   refine call104 (by simp) ?_
   simp only [strip,bodyOf,Tryz.f104,getD_body,keepN,bareOp_mk,lessOp_mk,lapp_cons,lapp_nil,List.map_cons,List.map_nil,array_toList,↓reduceIte,Nat.reduceEqDiff,Bool.false_eq_true]
   simp (disch := first | assumption | simp) only [↓sbD,sbU,tyB,Nat.reduceMul,Nat.reduceSub,Int.reduceEq,Int.reduceLT,Int.reduceLE,Int.reduceNe,Nat.reduceBneDiff,Nat.reduceBEq,decide_false,gt_iff_lt,Bool.or_self,Bool.false_eq_true,Nat.mul_one,Nat.one_mul,Nat.zero_mul,↓reduceIte,Nat.reduceEqDiff,Nat.reduceLT,Nat.reduceAdd,Nat.reduceLeDiff,reduceCtorEq,goInt,pairs,isConst,TI.isAgg,splice,boxS,Edp,dpv,Nat.beq_eq,ZV.val,List.any_cons,List.any_nil,Bool.false_and,eq_true h0,bytes_dec,eq_true ht',gk3]
   refine specNew (n := 3) ⟨by omega,by omega⟩ ?_
   simp (disch := first | assumption | simp) only [↓sbD,sbU,tyB,Nat.reduceMul,Nat.reduceSub,Int.reduceEq,Int.reduceLT,Int.reduceLE,Int.reduceNe,Nat.reduceBneDiff,Nat.reduceBEq,decide_false,gt_iff_lt,Bool.or_self,Bool.false_eq_true,Nat.mul_one,Nat.one_mul,Nat.zero_mul,↓reduceIte,Nat.reduceEqDiff,Nat.reduceLT,Nat.reduceAdd,Nat.reduceLeDiff,reduceCtorEq,goInt,pairs,isConst,TI.isAgg,splice,boxS,Edp,dpv,Nat.beq_eq,ZV.val,List.any_cons,List.any_nil,Bool.false_and]
   exact downS_here this
  ·have ht' : ¬ t = (⟨#[]⟩ : ByteArray) := ht
   have := hy (by rw [if_neg h0',if_neg ht])
   refine call104 (by simp) ?_
   simp only [strip,bodyOf,Tryz.f104,getD_body,keepN,bareOp_mk,lessOp_mk,lapp_cons,lapp_nil,List.map_cons,List.map_nil,array_toList,↓reduceIte,Nat.reduceEqDiff,Bool.false_eq_true]
   simp (disch := first | assumption | simp) only [↓sbD,sbU,tyB,Nat.reduceMul,Nat.reduceSub,Int.reduceEq,Int.reduceLT,Int.reduceLE,Int.reduceNe,Nat.reduceBneDiff,Nat.reduceBEq,decide_false,gt_iff_lt,Bool.or_self,Bool.false_eq_true,Nat.mul_one,Nat.one_mul,Nat.zero_mul,↓reduceIte,Nat.reduceEqDiff,Nat.reduceLT,Nat.reduceAdd,Nat.reduceLeDiff,reduceCtorEq,goInt,pairs,isConst,TI.isAgg,splice,boxS,Edp,dpv,Nat.beq_eq,ZV.val,List.any_cons,List.any_nil,Bool.false_and,eq_true h0,bytes_dec,ht']
   exact downS_here this
 ·have := hn 148 (by rw [if_pos h0])
  refine call104 (by simp) ?_
  simp only [strip,bodyOf,Tryz.f104,getD_body,keepN,bareOp_mk,lessOp_mk,lapp_cons,lapp_nil,List.map_cons,List.map_nil,array_toList,↓reduceIte,Nat.reduceEqDiff,Bool.false_eq_true]
  simp (disch := first | assumption | simp) only [↓sbD,sbU,tyB,Nat.reduceMul,Nat.reduceSub,Int.reduceEq,Int.reduceLT,Int.reduceLE,Int.reduceNe,Nat.reduceBneDiff,Nat.reduceBEq,decide_false,gt_iff_lt,Bool.or_self,Bool.false_eq_true,Nat.mul_one,Nat.one_mul,Nat.zero_mul,↓reduceIte,Nat.reduceEqDiff,Nat.reduceLT,Nat.reduceAdd,Nat.reduceLeDiff,reduceCtorEq,goInt,pairs,isConst,TI.isAgg,splice,boxS,Edp,dpv,Nat.beq_eq,ZV.val,List.any_cons,List.any_nil,Bool.false_and,h0]
  refine specAMay ?_
  simp (disch := first | assumption | simp) only [↓sbD,sbU,tyB,Nat.reduceMul,Nat.reduceSub,Int.reduceEq,Int.reduceLT,Int.reduceLE,Int.reduceNe,Nat.reduceBneDiff,Nat.reduceBEq,decide_false,gt_iff_lt,Bool.or_self,Bool.false_eq_true,Nat.mul_one,Nat.one_mul,Nat.zero_mul,↓reduceIte,Nat.reduceEqDiff,Nat.reduceLT,Nat.reduceAdd,Nat.reduceLeDiff,reduceCtorEq,goInt,pairs,isConst,TI.isAgg,splice,boxS,Edp,dpv,Nat.beq_eq,ZV.val,List.any_cons,List.any_nil,Bool.false_and,not_bool,Bool.not_false,gk3]
  refine specNew (n := 3) ⟨by omega,by omega⟩ ?_
  simp (disch := first | assumption | simp) only [↓sbD,sbU,tyB,Nat.reduceMul,Nat.reduceSub,Int.reduceEq,Int.reduceLT,Int.reduceLE,Int.reduceNe,Nat.reduceBneDiff,Nat.reduceBEq,decide_false,gt_iff_lt,Bool.or_self,Bool.false_eq_true,Nat.mul_one,Nat.one_mul,Nat.zero_mul,↓reduceIte,Nat.reduceEqDiff,Nat.reduceLT,Nat.reduceAdd,Nat.reduceLeDiff,reduceCtorEq,goInt,pairs,isConst,TI.isAgg,splice,boxS,Edp,dpv,Nat.beq_eq,ZV.val,List.any_cons,List.any_nil,Bool.false_and]
  exact downS_here this
theorem specCTopic {p : Pk} {vp vw vs vf vc : Value} (d1 : DL propC 4 vp p.props) (d2 : DL propC 4 vw p.will.props) (d3 : DL subC 5 vs p.subs) (d4 : DL strC1 1 vf p.filts) (d5 : DL intC 1 vc p.codes) (hl : p.props.length ≤ 100000) (hs : NC σ s)
  (hn : ∀ (r : Nat) σ',topN p.topic (numV (getP p.props 35) 0) = some r → Kept σ [] σ' [] → Q (.tuple #[.string emp,fv r 0 (sent 3)]) σ') (hy : ∀ σ',topN p.topic (numV (getP p.props 35) 0) = none → Kept σ [] σ' [] → Q (.tuple #[.string p.topic,.nilIface]) σ') : CallS E B 48 [s,.agg ⟨pkC p vp vw vs vf vc⟩] σ Q := by
 obtain ⟨up,uw,us,uf,uc,d1,d2,d3,d4,d5,-,hbx⟩ := boxPk d1 d2 d3 d4 d5
 simp only [pkC] at hbx ⊢
 refine call48 (by simp) ?_
 simp only [strip,bodyOf,Tryz.f48,getD_body,keepN,bareOp_mk,lessOp_mk,lapp_cons,lapp_nil,List.map_cons,List.map_nil,array_toList,↓reduceIte,Nat.reduceEqDiff,Bool.false_eq_true]
 simp (disch := first | assumption | simp) only [↓sbD,sbU,tyB,Nat.reduceMul,Nat.reduceSub,Int.reduceEq,Int.reduceLT,Int.reduceLE,Int.reduceNe,Nat.reduceBneDiff,Nat.reduceBEq,decide_false,gt_iff_lt,Bool.or_self,Bool.false_eq_true,Nat.mul_one,Nat.one_mul,Nat.zero_mul,↓reduceIte,Nat.reduceEqDiff,Nat.reduceLT,Nat.reduceAdd,Nat.reduceLeDiff,reduceCtorEq,goInt,pairs,isConst,TI.isAgg,splice,Edp,dpv,Nat.beq_eq,ZV.val,List.any_cons,List.any_nil,Bool.false_and,hbx]
 refine specCMade hs ?_
 simp (disch := first | assumption | simp) only [↓sbD,sbU,tyB,Nat.reduceMul,Nat.reduceSub,Int.reduceEq,Int.reduceLT,Int.reduceLE,Int.reduceNe,Nat.reduceBneDiff,Nat.reduceBEq,decide_false,gt_iff_lt,Bool.or_self,Bool.false_eq_true,Nat.mul_one,Nat.one_mul,Nat.zero_mul,↓reduceIte,Nat.reduceEqDiff,Nat.reduceLT,Nat.reduceAdd,Nat.reduceLeDiff,reduceCtorEq,goInt,pairs,isConst,TI.isAgg,splice,boxS,Edp,dpv,Nat.beq_eq,ZV.val,List.any_cons,List.any_nil,Bool.false_and]
 refine specNumP d1 hl fun σ1 k1 => ?_
 simp (disch := first | assumption | simp) only [↓sbD,sbU,tyB,Nat.reduceMul,Nat.reduceSub,Int.reduceEq,Int.reduceLT,Int.reduceLE,Int.reduceNe,Nat.reduceBneDiff,Nat.reduceBEq,decide_false,gt_iff_lt,Bool.or_self,Bool.false_eq_true,Nat.mul_one,Nat.one_mul,Nat.zero_mul,↓reduceIte,Nat.reduceEqDiff,Nat.reduceLT,Nat.reduceAdd,Nat.reduceLeDiff,reduceCtorEq,goInt,pairs,isConst,TI.isAgg,splice,boxS,Edp,dpv,Nat.beq_eq,ZV.val,List.any_cons,List.any_nil,Bool.false_and]
 refine specATopic (fun r hr => ?_) fun hr => ?_
 ·simp (disch := first | assumption | simp) only [↓sbD,sbU,tyB,Nat.reduceMul,Nat.reduceSub,Int.reduceEq,Int.reduceLT,Int.reduceLE,Int.reduceNe,Nat.reduceBneDiff,Nat.reduceBEq,decide_false,gt_iff_lt,Bool.or_self,Bool.false_eq_true,Nat.mul_one,Nat.one_mul,Nat.zero_mul,↓reduceIte,Nat.reduceEqDiff,Nat.reduceLT,Nat.reduceAdd,Nat.reduceLeDiff,reduceCtorEq,goInt,pairs,isConst,TI.isAgg,splice,boxS,Edp,dpv,Nat.beq_eq,ZV.val,List.any_cons,List.any_nil,Bool.false_and]
  refine drawS_l (fl := [(2,5)]) (by kernel_rfl) ?_ ?_
  rotate_left; simp only [lastP_cc,lastP_one]; rotate_left
  ·simp only [List.all_cons,List.all_nil,floatS,List.getElem?_cons_succ,List.getElem?_cons_zero,List.getElem?_toArray,Region.wanted,Bool.not_true,Bool.not_false,Bool.false_or,Bool.true_or,Bool.or_true,Bool.true_and,reads,looksWeak,aev_tmp,aev_const,upd_at,↓reduceIte,Nat.reduceEqDiff,Nat.reduceLT,Nat.reduceAdd,ofL_zero,ofL_succ,blkOf,oeq_refl,oeq_of,dead_cells,dead_map,Bool.and_true,Bool.and_self,Bool.false_eq_true,Bool.not_false]
   try rfl
  simp (disch := first | assumption | simp) only [↓sbD,sbU,tyB,Nat.reduceMul,Nat.reduceSub,Int.reduceEq,Int.reduceLT,Int.reduceLE,Int.reduceNe,Nat.reduceBneDiff,Nat.reduceBEq,decide_false,gt_iff_lt,Bool.or_self,Bool.false_eq_true,Nat.mul_one,Nat.one_mul,Nat.zero_mul,↓reduceIte,Nat.reduceEqDiff,Nat.reduceLT,Nat.reduceAdd,Nat.reduceLeDiff,reduceCtorEq,goInt,pairs,isConst,TI.isAgg,splice,boxS,Edp,dpv,Nat.beq_eq,ZV.val,List.any_cons,List.any_nil,Bool.false_and]
  exact downS_here (hn r _ hr k1)
 ·simp (disch := first | assumption | simp) only [↓sbD,sbU,tyB,Nat.reduceMul,Nat.reduceSub,Int.reduceEq,Int.reduceLT,Int.reduceLE,Int.reduceNe,Nat.reduceBneDiff,Nat.reduceBEq,decide_false,gt_iff_lt,Bool.or_self,Bool.false_eq_true,Nat.mul_one,Nat.one_mul,Nat.zero_mul,↓reduceIte,Nat.reduceEqDiff,Nat.reduceLT,Nat.reduceAdd,Nat.reduceLeDiff,reduceCtorEq,goInt,pairs,isConst,TI.isAgg,splice,boxS,Edp,dpv,Nat.beq_eq,ZV.val,List.any_cons,List.any_nil,Bool.false_and]
  refine drawS_l (fl := [(2,5)]) (by kernel_rfl) ?_ ?_
  rotate_left; simp only [lastP_cc,lastP_one]; rotate_left
  ·simp only [List.all_cons,List.all_nil,floatS,List.getElem?_cons_succ,List.getElem?_cons_zero,List.getElem?_toArray,Region.wanted,Bool.not_true,Bool.not_false,Bool.false_or,Bool.true_or,Bool.or_true,Bool.true_and,reads,looksWeak,aev_tmp,aev_const,upd_at,↓reduceIte,Nat.reduceEqDiff,Nat.reduceLT,Nat.reduceAdd,ofL_zero,ofL_succ,blkOf,oeq_refl,oeq_of,dead_cells,dead_map,Bool.and_true,Bool.and_self,Bool.false_eq_true,Bool.not_false]
   try rfl
  simp (disch := first | assumption | simp) only [↓sbD,sbU,tyB,Nat.reduceMul,Nat.reduceSub,Int.reduceEq,Int.reduceLT,Int.reduceLE,Int.reduceNe,Nat.reduceBneDiff,Nat.reduceBEq,decide_false,gt_iff_lt,Bool.or_self,Bool.false_eq_true,Nat.mul_one,Nat.one_mul,Nat.zero_mul,↓reduceIte,Nat.reduceEqDiff,Nat.reduceLT,Nat.reduceAdd,Nat.reduceLeDiff,reduceCtorEq,goInt,pairs,isConst,TI.isAgg,splice,boxS,Edp,dpv,Nat.beq_eq,ZV.val,List.any_cons,List.any_nil,Bool.false_and]
  exact downS_here (hy _ hr k1)
end
end Go.Proofs.YtkhcbbpfchgemaaGreatDoor.AbsA
