/-
  A part of a law's proof.
-/
import Derived.Test.YtonmjhdcijibgaaGreatDoorAUnqcJ
namespace Go.Proofs.YtonmjhdcijibgaaGreatDoor.AbsB
open Go AbsYtonmjhdcijibgaaGreatDoor Abs
set_option maxRecDepth 100000
set_option maxHeartbeats 8000000
set_option linter.unusedSimpArgs false
set_option linter.unusedVariables false
attribute [local irreducible] afterS afterOpS opSK OpsS TrS CodeS condS condW thenS thenQ guardS guardTS outS drawS trSK consS
theorem fraNe {σ : AHeap} {cs : Bool} {f : Int} {a : ByteArray} : abin E σ .neq 57 cs (.agg ⟨[.int .i64 f,.string a]⟩) (.agg ⟨[.int .i64 f,.string a]⟩) = some (.bool false) := by
 have e1 : (a == a) = true := by rw [bytes_dec]; simp
 simp only [abin,nonNum,eqAsk,aeq,aeqs,apart,ty57,ty3,ty9,TI.isAgg,Bool.and_self,Bool.false_eq_true,List.getElem?_cons_zero,List.getElem?_cons_succ,↓reduceIte,beq_self_eq_true,Option.map_some,e1]
 rfl
theorem fraNe0 {σ : AHeap} {cs : Bool} : abin E σ .neq 57 cs (.agg ⟨[.int .i64 0,.string emp]⟩) (.agg ⟨[.int .i64 0,.string ⟨#[]⟩]⟩) = some (.bool false) := fraNe
theorem pk_zero : PkV pkz (.agg ⟨zeL⟩) := ⟨_,_,_,_,_,.inl ⟨rfl,rfl⟩,.inl ⟨rfl,rfl⟩,.inl ⟨rfl,rfl⟩,.inl ⟨rfl,rfl⟩,.inl ⟨rfl,rfl⟩,rfl⟩
theorem law6 {H : AHeap} {vs : List Value} (hB0 : Ext B H) (h : ArgsTyped E H 8 [54,3,9] vs) : CallW E 6 vs H fun r _ => r = .bool true := by
 obtain ⟨u,vs1,rfl,t1,e1⟩ := h.cons'
 obtain ⟨u2,vs2,rfl,t2,e2⟩ := e1.cons'
 obtain ⟨u3,vs3,rfl,t3,e3⟩ := e2.cons'
 obtain rfl := e3.nil'
 obtain ⟨p,hp,_⟩ := typed_pk t1
 obtain ⟨n,rfl⟩ := typed_i t2
 obtain ⟨s,rfl⟩ := typed_s t3
 clear t1 t2 t3 e1 e2 e3 h
 have key : CallS E B 6 [u,.int .i64 n,.string s] .empty fun r _ => r = .bool true := by
  obtain ⟨vp,vw,vs,vf,vc,d1,d2,d3,d4,d5,rfl⟩ := hp
  obtain ⟨up,uw,us,uf,uc,d1,d2,d3,d4,d5,hzz,hbx⟩ := boxPk d1 d2 d3 d4 d5
  have hp : PkV p (.agg ⟨pkC p up uw us uf uc⟩) := ⟨_,_,_,_,_,d1,d2,d3,d4,d5,rfl⟩
  have hfz : ∀ cs,Value.agg ⟨pkC p up uw us uf uc⟩ = .agg ⟨cs⟩ → frzL E.ng E.nb cs = true := fun cs h => by injection h with h; injection h with h; rw [← h]; exact hzz
  clear d1 d2 d3 d4 d5 hzz
  simp only [pkC] at hp hfz hbx ⊢
  refine call6 (by simp) ?_
  simp only [strip,bodyOf,Tryz.f6,getD_body,keepN,bareOp_mk,lessOp_mk,lapp_cons,lapp_nil,List.map_cons,List.map_nil,↓reduceIte,Nat.reduceEqDiff,Bool.false_eq_true]
  simp (disch := first | assumption | simp) only [↓sbD,sbU,tyB,↓reduceIte,Nat.reduceEqDiff,Nat.reduceLT,Nat.reduceAdd,Nat.reduceLeDiff,hbx]
  refine specKFew hp hfz fun few hfew => ?_
  cases few with
  | false =>
   simp (disch := first | assumption | simp) only [↓sbD,sbU,↓reduceIte,Nat.reduceEqDiff,Nat.reduceLT,not_bool]
   refine specS35 ?_
   simp (disch := first | assumption | simp) only [↓sbD,sbU,↓reduceIte,Nat.reduceLT]
   exact downS_here rfl
  | true =>
   have hf := hfew rfl
   have hsm : smallP p.props := ⟨by have := hf.props.1; omega,fun x hx => by have := hf.props.2 x hx; omega⟩
   by_cases hsz : (2048 : Int) < (s.size : Int)
   ·simp (disch := first | assumption | simp) only [↓sbD,sbU,tyB,↓reduceIte,Nat.reduceEqDiff,Nat.reduceLT,goInt,isConst,not_bool,hsz]
    refine specS35 ?_
    simp (disch := first | assumption | simp) only [↓sbD,sbU,↓reduceIte,Nat.reduceLT]
    exact downS_here rfl
   simp (disch := first | assumption | simp) only [↓sbD,sbU,tyB,decide_false,↓reduceIte,Nat.reduceEqDiff,Nat.reduceLT,Nat.reduceAdd,Nat.reduceLeDiff,goInt,isConst,not_bool,hsz]
   refine specUEnc hp hf.mid (fun fb he σ1 k1 => ?_) fun k rr a he σ1 d z k1 hd hn => ?_
   focus
    have hfz2 := encU_size he hf
    simp (disch := first | assumption | simp) only [↓sbD,sbU,tyB,↓reduceIte,Nat.reduceEqDiff,Nat.reduceLT,Nat.reduceAdd,Nat.reduceLeDiff,isConst,splice,AS_new,zeFra]
    intro c hc
    try simp (disch := first | assumption | simp) only [↓sbD,sbU,tyB,Nat.reduceMul,Nat.reduceSub,Int.reduceEq,Int.reduceLT,Int.reduceLE,Int.reduceNe,Nat.reduceBneDiff,Nat.reduceBEq,decide_false,gt_iff_lt,Bool.or_self,Bool.false_eq_true,Nat.mul_one,Nat.one_mul,Nat.zero_mul,↓reduceIte,Nat.reduceEqDiff,Nat.reduceLT,Nat.reduceAdd,Nat.reduceLeDiff,reduceCtorEq,goInt,pairs,isConst,TI.isAgg,splice,boxS,Edp,dpv,Nat.beq_eq,ZV.val,List.any_cons,List.any_nil,Bool.false_and,AHeap.get_set_same]
    generalize hσ2 : AHeap.set (AHeap.set σ1 c _) c _ = σ2
    have gc2 : σ2.get c = .cells [.int .i64 fb.1,.string fb.2] true 0 := by rw [← hσ2]; exact AHeap.get_set_same _ _ _
    clear hσ2
    try simp (disch := first | assumption | simp) only [↓sbD,sbU,tyB,Nat.reduceMul,Nat.reduceSub,Int.reduceEq,Int.reduceLT,Int.reduceLE,Int.reduceNe,Nat.reduceBneDiff,Nat.reduceBEq,decide_false,gt_iff_lt,Bool.or_self,Bool.false_eq_true,Nat.mul_one,Nat.one_mul,Nat.zero_mul,↓reduceIte,Nat.reduceEqDiff,Nat.reduceLT,Nat.reduceAdd,Nat.reduceLeDiff,reduceCtorEq,goInt,pairs,isConst,TI.isAgg,splice,boxS,Edp,dpv,Nat.beq_eq,ZV.val,List.any_cons,List.any_nil,Bool.false_and,gc2]
    refine specUDec (by omega) (fun y hy v2 σ3 hv2 k3 => ?_) fun k rr a hy σ3 d z k3 hd hn => by cases unsBack he hf hy
    have hyy := unsBack he hf hy
    simp only [Except.ok.injEq] at hyy
    subst hyy
    obtain ⟨ga,gb,gc,gd,ge,g1,g2,g3,g4,g5,rfl⟩ := hv2
    have hv2 : PkV (unsB p) (.agg ⟨pkC (unsB p) ga gb gc gd ge⟩) := ⟨_,_,_,_,_,g1,g2,g3,g4,g5,rfl⟩
    have vg1 := dl_vc g1
    have vg2 := dl_vc g2
    have vg3 := dl_vc g3
    have vg4 := dl_vc g4
    have vg5 := dl_vc g5
    simp only [pkC,unsB,unsP,pkz] at hv2 ⊢
    simp (disch := first | assumption | simp) only [↓sbD,sbU,tyB,↓reduceIte,Nat.reduceEqDiff,Nat.reduceLT,Nat.reduceAdd,Nat.reduceLeDiff,isConst,splice,AS_new,zePk,vg1.2,vg2.2,vg3.2,vg4.2,vg5.2]
    intro t ht
    try simp (disch := first | assumption | simp) only [↓sbD,sbU,tyB,Nat.reduceMul,Nat.reduceSub,Int.reduceEq,Int.reduceLT,Int.reduceLE,Int.reduceNe,Nat.reduceBneDiff,Nat.reduceBEq,decide_false,gt_iff_lt,Bool.or_self,Bool.false_eq_true,Nat.mul_one,Nat.one_mul,Nat.zero_mul,↓reduceIte,Nat.reduceEqDiff,Nat.reduceLT,Nat.reduceAdd,Nat.reduceLeDiff,reduceCtorEq,goInt,pairs,isConst,TI.isAgg,splice,boxS,Edp,dpv,Nat.beq_eq,ZV.val,List.any_cons,List.any_nil,Bool.false_and,AHeap.get_set_same,vg1.1,vg1.2,vg2.1,vg2.2,vg3.1,vg3.2,vg4.1,vg4.2,vg5.1,vg5.2,Bool.and_self,Bool.and_true,List.length_cons,List.length_nil,List.cons_append,List.nil_append,List.drop_succ_cons,List.drop_zero,decide_true]
    generalize hσ4 : AHeap.set (AHeap.set σ3 t _) t _ = σ4
    have gt : σ4.get t = .cells [.int .i64 p.kind,.int .i64 p.id,.int .i64 0,ga,.bool false,.int .i64 0,.string emp,.bool false,.string emp,.string emp,.int .i64 0,.bool false,gb,.bool false,.string emp,.bool false,.string emp,.bool false,.string emp,.string emp,.int .i64 0,.bool false,.bool false,gc,gd,ge] true 0 := by rw [← hσ4]; exact AHeap.get_set_same _ _ _
    clear hσ4
    try simp (disch := first | assumption | simp) only [↓sbD,sbU,tyB,Nat.reduceMul,Nat.reduceSub,Int.reduceEq,Int.reduceLT,Int.reduceLE,Int.reduceNe,Nat.reduceBneDiff,Nat.reduceBEq,decide_false,gt_iff_lt,Bool.or_self,Bool.false_eq_true,Nat.mul_one,Nat.one_mul,Nat.zero_mul,↓reduceIte,Nat.reduceEqDiff,Nat.reduceLT,Nat.reduceAdd,Nat.reduceLeDiff,reduceCtorEq,goInt,pairs,isConst,TI.isAgg,splice,boxS,Edp,dpv,Nat.beq_eq,ZV.val,List.any_cons,List.any_nil,Bool.false_and,gt]
    refine specBare13 hp (by have := hf.props.1; omega) fun w σ5 hw k5 => ?_
    have gt5 := (k5.at gt (by simp) (by simp)).1
    try simp (disch := first | assumption | simp) only [↓sbD,sbU,↓reduceIte,Nat.reduceEqDiff,Nat.reduceLT]
    refine specKSame (p := (unsB p)) hv2 hw (by simp only [unsB,unsP,List.length_map]; have := hf.props.1; omega) (by simp [unsB,unsP,pkz]) (by simp [unsB,unsP,pkz]) (by have := hf.filts; simp only [unsB,unsP]; split <;> simp <;> omega) (by have := hf.codes; simp only [unsB,unsP]; split <;> simp <;> omega) ?_
    simp (disch := first | assumption | simp) only [↓sbD,sbU,↓reduceIte,Nat.reduceEqDiff,Nat.reduceLT,not_bool]
    refine drawS_l (fl := [(3,5)]) (by kernel_rfl) ?_ ?_
    rotate_left; simp only [lastP_cc,lastP_one]; rotate_left
    ·simp only [List.all_cons,List.all_nil,floatS,List.getElem?_cons_succ,List.getElem?_cons_zero,List.getElem?_toArray,Region.wanted,Bool.not_false,Bool.or_true,reads,looksWeak,aev_tmp,upd_at,↓reduceIte,Nat.reduceEqDiff,Nat.reduceLT,Nat.reduceAdd,blkOf,oeq_refl,dead_cells,Bool.and_self,Bool.false_eq_true,Bool.not_false,gt,gt5]
     try rfl
    simp (disch := first | assumption | simp) only [↓sbD,sbU,tyB,↓reduceIte,Nat.reduceEqDiff,Nat.reduceLT,Nat.reduceAdd,Nat.reduceLeDiff,pairs,splice,ZV.val]
   rotate_left
   focus
    simp (disch := first | assumption | simp) only [↓sbD,sbU,tyB,Bool.or_self,↓reduceIte,Nat.reduceEqDiff,Nat.reduceLT,Nat.reduceAdd,Nat.reduceLeDiff,pairs,isConst,splice,ZV.val,AS_new,zeFra]
    intro c hc
    try simp (disch := first | assumption | simp) only [↓sbD,sbU,tyB,↓reduceIte,Nat.reduceEqDiff,Nat.reduceLT,Nat.reduceAdd,Nat.reduceLeDiff,pairs,splice,ZV.val,fraNe0]
   all_goals
    refine specUDec (by omega) (fun p2 hy2 v3 σ6 hv3 k6 => ?_) fun k2 r2 a2 hy2 σ6 d2 z2 k6 hd2 hn2 => ?_
    rotate_left
    ·simp only [zeL,pkC,pkz]
     simp (disch := first | assumption | simp) only [↓sbD,sbU,tyB,↓reduceIte,Nat.reduceEqDiff,Nat.reduceLT,Nat.reduceAdd,Nat.reduceLeDiff,pairs,isConst,splice,ZV.val,AS_new,zePk]
     intro e he2
     try simp (disch := first | assumption | simp) only [↓sbD,sbU,tyB,Nat.reduceMul,Nat.reduceSub,Int.reduceEq,Int.reduceLT,Int.reduceLE,Int.reduceNe,Nat.reduceBneDiff,Nat.reduceBEq,decide_false,gt_iff_lt,Bool.or_self,Bool.false_eq_true,Nat.mul_one,Nat.one_mul,Nat.zero_mul,↓reduceIte,Nat.reduceEqDiff,Nat.reduceLT,Nat.reduceAdd,Nat.reduceLeDiff,reduceCtorEq,goInt,pairs,isConst,TI.isAgg,splice,boxS,Edp,dpv,Nat.beq_eq,ZV.val,List.any_cons,List.any_nil,Bool.false_and,AHeap.get_set_same]
     refine specKSame (p := pkz) pk_zero pk_zero (by decide) (by decide) (by decide) (by decide) (by decide) ?_
     simp (disch := first | assumption | simp) only [↓sbD,sbU,↓reduceIte,Nat.reduceLT]
     refine specS35 ?_
     simp (disch := first | assumption | simp) only [↓sbD,sbU,↓reduceIte,Nat.reduceEqDiff,Nat.reduceLT]
     exact downS_here rfl
    obtain ⟨b,hE,hD2,hsm2,hbz,i2,l2,fl2,cl2,rfl⟩ := unsAgain hy2 (by omega)
    obtain ⟨ma,mb,mc,md,me,m1,m2,m3,m4,m5,rfl⟩ := hv3
    have hv3 : PkV (unsP (n / 16) i2 l2 fl2 cl2) (.agg ⟨pkC (unsP (n / 16) i2 l2 fl2 cl2) ma mb mc md me⟩) := ⟨_,_,_,_,_,m1,m2,m3,m4,m5,rfl⟩
    have vm1 := dl_vc m1
    have vm2 := dl_vc m2
    have vm3 := dl_vc m3
    have vm4 := dl_vc m4
    have vm5 := dl_vc m5
    simp only [pkC,unsP,pkz] at hv3 ⊢
    simp (disch := first | assumption | simp) only [↓sbD,sbU,tyB,↓reduceIte,Nat.reduceEqDiff,Nat.reduceLT,Nat.reduceAdd,Nat.reduceLeDiff,isConst,splice,AS_new,zePk,vm1.2,vm2.2,vm3.2,vm4.2,vm5.2]
    intro t ht
    try simp (disch := first | assumption | simp) only [↓sbD,sbU,tyB,Nat.reduceMul,Nat.reduceSub,Int.reduceEq,Int.reduceLT,Int.reduceLE,Int.reduceNe,Nat.reduceBneDiff,Nat.reduceBEq,decide_false,gt_iff_lt,Bool.or_self,Bool.false_eq_true,Nat.mul_one,Nat.one_mul,Nat.zero_mul,↓reduceIte,Nat.reduceEqDiff,Nat.reduceLT,Nat.reduceAdd,Nat.reduceLeDiff,reduceCtorEq,goInt,pairs,isConst,TI.isAgg,splice,boxS,Edp,dpv,Nat.beq_eq,ZV.val,List.any_cons,List.any_nil,Bool.false_and,AHeap.get_set_same,vm1.1,vm1.2,vm2.1,vm2.2,vm3.1,vm3.2,vm4.1,vm4.2,vm5.1,vm5.2,Bool.and_self,Bool.and_true,List.length_cons,List.length_nil,List.cons_append,List.nil_append,List.drop_succ_cons,List.drop_zero,decide_true]
    generalize hσ7 : AHeap.set (AHeap.set σ6 t _) t _ = σ7
    have gt : σ7.get t = .cells [.int .i64 (n / 16),.int .i64 i2,.int .i64 0,ma,.bool false,.int .i64 0,.string emp,.bool false,.string emp,.string emp,.int .i64 0,.bool false,mb,.bool false,.string emp,.bool false,.string emp,.bool false,.string emp,.string emp,.int .i64 0,.bool false,.bool false,mc,md,me] true 0 := by rw [← hσ7]; exact AHeap.get_set_same _ _ _
    clear hσ7
    try simp (disch := first | assumption | simp) only [↓sbD,sbU,tyB,Nat.reduceMul,Nat.reduceSub,Int.reduceEq,Int.reduceLT,Int.reduceLE,Int.reduceNe,Nat.reduceBneDiff,Nat.reduceBEq,decide_false,gt_iff_lt,Bool.or_self,Bool.false_eq_true,Nat.mul_one,Nat.one_mul,Nat.zero_mul,↓reduceIte,Nat.reduceEqDiff,Nat.reduceLT,Nat.reduceAdd,Nat.reduceLeDiff,reduceCtorEq,goInt,pairs,isConst,TI.isAgg,splice,boxS,Edp,dpv,Nat.beq_eq,ZV.val,List.any_cons,List.any_nil,Bool.false_and,gt]
    refine specUEnc hv3 hsm2 (fun fb2 he2 σ8 k8 => ?_) fun k2 r2 a2 he2 σ8 d2 z2 k8 hd2 hn2 => by cases he2.det hE
    have hfe := he2.det hE
    simp only [Except.ok.injEq] at hfe
    subst hfe
    have gt8 := (k8.at gt (by simp) (by simp)).1
    simp (disch := first | assumption | simp) only [↓sbD,sbU,tyB,↓reduceIte,Nat.reduceEqDiff,Nat.reduceLT,Nat.reduceAdd,Nat.reduceLeDiff,splice,AS_new,zeFra]
    intro c' hc'
    try simp (disch := first | assumption | simp) only [↓sbD,sbU,tyB,Nat.reduceMul,Nat.reduceSub,Int.reduceEq,Int.reduceLT,Int.reduceLE,Int.reduceNe,Nat.reduceBneDiff,Nat.reduceBEq,decide_false,gt_iff_lt,Bool.or_self,Bool.false_eq_true,Nat.mul_one,Nat.one_mul,Nat.zero_mul,↓reduceIte,Nat.reduceEqDiff,Nat.reduceLT,Nat.reduceAdd,Nat.reduceLeDiff,reduceCtorEq,goInt,pairs,isConst,TI.isAgg,splice,boxS,Edp,dpv,Nat.beq_eq,ZV.val,List.any_cons,List.any_nil,Bool.false_and,AHeap.get_set_same]
    generalize hσ9 : AHeap.set (AHeap.set σ8 c' _) c' _ = σ9
    have k9 : Kept σ8 [] σ9 [] := by rw [← hσ9]; exact ((Kept.refl _ []).setD hc').setD hc'
    have gc9 : σ9.get c' = .cells [.int .i64 n,.string b] true 0 := by rw [← hσ9]; exact AHeap.get_set_same _ _ _
    have gt9 := (k9.at gt8 (by simp) (by simp)).1
    clear hσ9
    try simp (disch := first | assumption | simp) only [↓sbD,sbU,tyB,Nat.reduceMul,Nat.reduceSub,Int.reduceEq,Int.reduceLT,Int.reduceLE,Int.reduceNe,Nat.reduceBneDiff,Nat.reduceBEq,decide_false,gt_iff_lt,Bool.or_self,Bool.false_eq_true,Nat.mul_one,Nat.one_mul,Nat.zero_mul,↓reduceIte,Nat.reduceEqDiff,Nat.reduceLT,Nat.reduceAdd,Nat.reduceLeDiff,reduceCtorEq,goInt,pairs,isConst,TI.isAgg,splice,boxS,Edp,dpv,Nat.beq_eq,ZV.val,List.any_cons,List.any_nil,Bool.false_and,gc9]
    refine specUDec (by omega) (fun y2 hy3 v4 σ10 hv4 k10 => ?_) fun k2 r2 a2 hy3 σ10 d2 z2 k10 hd2 hn2 => by cases hy3.det hD2
    have hye := hy3.det hD2
    simp only [Except.ok.injEq] at hye
    subst hye
    have gt10 := (k10.at gt9 (by simp) (by simp)).1
    obtain ⟨oa,ob,oc,od,oe,o1,o2,o3,o4,o5,rfl⟩ := hv4
    have hv4 : PkV (unsP (n / 16) i2 l2 fl2 cl2) (.agg ⟨pkC (unsP (n / 16) i2 l2 fl2 cl2) oa ob oc od oe⟩) := ⟨_,_,_,_,_,o1,o2,o3,o4,o5,rfl⟩
    have vo1 := dl_vc o1
    have vo2 := dl_vc o2
    have vo3 := dl_vc o3
    have vo4 := dl_vc o4
    have vo5 := dl_vc o5
    simp only [pkC,unsP,pkz] at hv4 ⊢
    simp (disch := first | assumption | simp) only [↓sbD,sbU,tyB,↓reduceIte,Nat.reduceEqDiff,Nat.reduceLT,Nat.reduceAdd,Nat.reduceLeDiff,isConst,splice,AS_new,zePk,vo1.2,vo2.2,vo3.2,vo4.2,vo5.2]
    intro t' ht'
    try simp (disch := first | assumption | simp) only [↓sbD,sbU,tyB,Nat.reduceMul,Nat.reduceSub,Int.reduceEq,Int.reduceLT,Int.reduceLE,Int.reduceNe,Nat.reduceBneDiff,Nat.reduceBEq,decide_false,gt_iff_lt,Bool.or_self,Bool.false_eq_true,Nat.mul_one,Nat.one_mul,Nat.zero_mul,↓reduceIte,Nat.reduceEqDiff,Nat.reduceLT,Nat.reduceAdd,Nat.reduceLeDiff,reduceCtorEq,goInt,pairs,isConst,TI.isAgg,splice,boxS,Edp,dpv,Nat.beq_eq,ZV.val,List.any_cons,List.any_nil,Bool.false_and,AHeap.get_set_same,vo1.1,vo1.2,vo2.1,vo2.2,vo3.1,vo3.2,vo4.1,vo4.2,vo5.1,vo5.2,Bool.and_self,Bool.and_true,List.length_cons,List.length_nil,List.cons_append,List.nil_append,List.drop_succ_cons,List.drop_zero,decide_true]
    generalize hσ11 : AHeap.set (AHeap.set σ10 t' _) t' _ = σ11
    have gt' : σ11.get t' = .cells [.int .i64 (n / 16),.int .i64 i2,.int .i64 0,oa,.bool false,.int .i64 0,.string emp,.bool false,.string emp,.string emp,.int .i64 0,.bool false,ob,.bool false,.string emp,.bool false,.string emp,.bool false,.string emp,.string emp,.int .i64 0,.bool false,.bool false,oc,od,oe] true 0 := by rw [← hσ11]; exact AHeap.get_set_same _ _ _
    have k11 : Kept σ10 [] σ11 [] := by rw [← hσ11]; exact ((Kept.refl _ []).setD ht').setD ht'
    clear hσ11
    try simp (disch := first | assumption | simp) only [↓sbD,sbU,tyB,Nat.reduceMul,Nat.reduceSub,Int.reduceEq,Int.reduceLT,Int.reduceLE,Int.reduceNe,Nat.reduceBneDiff,Nat.reduceBEq,decide_false,gt_iff_lt,Bool.or_self,Bool.false_eq_true,Nat.mul_one,Nat.one_mul,Nat.zero_mul,↓reduceIte,Nat.reduceEqDiff,Nat.reduceLT,Nat.reduceAdd,Nat.reduceLeDiff,reduceCtorEq,goInt,pairs,isConst,TI.isAgg,splice,boxS,Edp,dpv,Nat.beq_eq,ZV.val,List.any_cons,List.any_nil,Bool.false_and,gt']
    have gt11 := (k11.at gt10 (by simp) (by simp)).1
    simp (disch := first | assumption | simp) only [↓sbD,sbU,tyB,↓reduceIte,Nat.reduceEqDiff,Nat.reduceLT,Nat.reduceAdd,Nat.reduceLeDiff,gt11,gt']
    refine specKSame (p := (unsP (n / 16) i2 l2 fl2 cl2)) hv3 hv4 (by have := hsm2.props.1; simp only [unsP] at this ⊢; omega) (by simp [unsP,pkz]) (by simp [unsP,pkz]) (by have := hsm2.filts; simp only [unsP] at this ⊢; omega) (by have := hsm2.codes; simp only [unsP] at this ⊢; omega) ?_
    simp (disch := first | assumption | simp) only [↓sbD,sbU,↓reduceIte,Nat.reduceEqDiff,Nat.reduceLT]
    refine specS35 ?_
    simp (disch := first | assumption | simp) only [↓sbD,sbU,↓reduceIte,Nat.reduceEqDiff,Nat.reduceLT]
    exact downS_here rfl
 exact (key H (ext_holds hB0)).mono fun r H' ⟨σ',_,h⟩ => h
end Go.Proofs.YtonmjhdcijibgaaGreatDoor.AbsB
