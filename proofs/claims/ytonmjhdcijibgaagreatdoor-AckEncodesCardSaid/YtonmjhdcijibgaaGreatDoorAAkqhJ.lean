/-
  Parts of a law's proof.
-/
import Derived.Test.YtonmjhdcijibgaaGreatDoorAAkqcJ
namespace Go.Proofs.YtonmjhdcijibgaaGreatDoor.AbsA
open Go AbsYtonmjhdcijibgaaGreatDoor Abs
set_option maxRecDepth 100000
set_option maxHeartbeats 8000000
set_option linter.unusedSimpArgs false
set_option linter.unusedVariables false
attribute [local irreducible] afterS afterOpS opSK OpsS TrS CodeS condS condW thenS thenQ guardS guardTS outS drawS trSK consS
theorem runW_k : ∀ {l : List Act} {b : ByteArray} {k q : Nat}, runW b l = .inr (k, q) → k ≠ 0
 | [], b, k, q, h => by cases h
 | a :: l, b, k, q, h => by
  simp only [runW] at h
  cases ha : actW a with
  | inl m => rw [ha] at h; exact runW_k h
  | inr e =>
   obtain ⟨k', q'⟩ := e
   rw [ha] at h
   simp only [Sum.inr.injEq, Prod.mk.injEq] at h
   have := actW_err ha; omega
theorem encP_k {pl : Int} {l : List Pr} {k r a : Nat} (h : encP pl l = .error (k, r, a)) : k ≠ 0 := by
 unfold encP at h
 cases hc : chk pl [] l with
 | some e =>
  obtain ⟨k', r', a'⟩ := e
  rw [hc] at h
  simp only [Except.error.injEq, Prod.mk.injEq] at h
  have := chk_k hc; omega
 | none =>
  rw [hc] at h
  simp only at h
  cases hr : runW emp (l.flatMap actsP) with
  | inl c => rw [hr] at h; cases h
  | inr e =>
   obtain ⟨k', q'⟩ := e
   rw [hr] at h
   simp only [Except.error.injEq, Prod.mk.injEq] at h
   have := runW_k hr; omega
section
variable {σ : AHeap} {Q : Value → AHeap → Prop}
theorem specDAEnc {p : Pk} {v : Value} (hp : PkV p v) (hfz : ∀ cs, v = .agg ⟨cs⟩ → frzL E.ng E.nb cs = true) (hf : fewPr p.props)
  (hok : ∀ fb, EncA p (.ok fb) → ∀ σ', Kept σ [] σ' [] → Q (.tuple #[.agg ⟨[.int .i64 fb.1, .string fb.2]⟩, flt 0 0 0]) σ')
  (hbad : ∀ k rr a : Nat, EncA p (.error (k, rr, a)) → k ≠ 0 → ∀ σ', Kept σ [] σ' [] → Q (.tuple #[.agg ⟨[.int .i64 0, .string emp]⟩, flt k rr a]) σ') :
  CallS E B 39 [v] σ Q := by
 obtain ⟨vp, vw, vs, vf, vc, d1, d2, d3, d4, d5, rfl⟩ := hp
 have hz := hfz _ rfl
 clear hfz
 simp only [pkC] at hz ⊢
 have hlen := DLp.len d1
 have hsm : smallP p.props := ⟨by have := hf.1; omega, fun x hx => by have := hf.2 x hx; omega⟩
 have eml : (emp).size = 0 := rfl
 have fle := firstA_le p.kind
 unfold EncA at hok hbad
 refine call39 (by simp) ?_
 simp only [strip, bodyOf, Tryz.f39, getD_body, keepN, bareOp_mk, lessOp_mk, lapp_cons, lapp_nil, List.map_cons, List.map_nil, ↓reduceIte, Nat.reduceEqDiff, Bool.false_eq_true]
 simp (disch := first | assumption | simp) only [↓sbD, sbU, tyB, ↓reduceIte, Nat.reduceEqDiff, Nat.reduceLT, reduceCtorEq, boxS, Edp, dpv, AS_new, zeFra, zeFlt, hz]
 intro b hb c hc
 have hcb : c ≠ b := by rintro rfl; rw [AHeap.get_set_same] at hc; cases hc
 have hcd : σ.get c = .dead := by rw [AHeap.get_set_ne _ _ hcb.symm] at hc; exact hc
 have cb : ∀ (τ : AHeap) o, (AHeap.set τ c o).get b = τ.get b := fun τ o => AHeap.get_set_ne _ _ hcb
 have bc : ∀ (τ : AHeap) o, (AHeap.set τ b o).get c = τ.get c := fun τ o => AHeap.get_set_ne _ _ hcb.symm
 clear hc
 refine specRFirstA ?_
 by_cases h0 : firstA p.kind = 0
 ·simp only [h0, if_true] at hok hbad
  simp (disch := first | assumption | simp) only [↓sbD, sbU, tyB, ↓reduceIte, Nat.reduceEqDiff, Nat.reduceLT, Nat.reduceAdd, Nat.reduceLeDiff, pairs, isConst, splice, ZV.val, h0, bc, cb, res_cellc, resC_some]
  exact downS_here (hbad 7 128 0 rfl (by omega) _ (((((Kept.refl σ []).setD hb).setD hcd).setD hb).setD hcd))
 simp only [h0, if_false] at hok hbad
 simp (disch := first | assumption | simp) only [↓sbD, sbU, tyB, decide_false, ↓reduceIte, Nat.reduceLT, pairs, isConst, boxS, Edp, ZV.val, h0]
 generalize hσ1 : AHeap.set (AHeap.set σ b _) c _ = σ1
 have k1 : Kept σ [] σ1 [] := by rw [← hσ1]; exact ((Kept.refl σ []).setD hb).setD hcd
 have gb1 : σ1.get b = .cells [.int .i64 0, .string emp] true 0 := by rw [← hσ1, cb]; exact AHeap.get_set_same _ _ _
 have gc1 : σ1.get c = .cells [.int .i64 0, .int .i64 0, .int .i64 0] true 0 := by rw [← hσ1]; exact AHeap.get_set_same _ _ _
 clear hσ1
 have FIN : ∀ {τ : AHeap} {o o' : AObj}, Kept σ1 [] τ [] → Kept σ [] ((τ.set b o).set c o') [] := fun kt => ((k1.trans kt).setD hb).setD hcd
 simp (disch := first | assumption | simp) only [↓sbD, sbU, tyB, Bool.false_eq_true, ↓reduceIte, Nat.reduceEqDiff, Nat.reduceLT, Nat.reduceAdd, Nat.reduceLeDiff, reduceCtorEq, pairs, splice, ZV.val, AS_new, dpX]
 intro x hx
 have hbx : b ≠ x := (nd hx gb1 (by simp)).symm
 have hcx : c ≠ x := (nd hx gc1 (by simp)).symm
 generalize hσ2 : AHeap.set σ1 x _ = σ2
 have x2 : XRun σ2 x (runW emp []) := by rw [← hσ2]; exact AHeap.get_set_same _ _ _
 have k2 : Kept σ1 [] σ2 [x] := by rw [← hσ2]; exact Kept.new' hx
 have z2 : leW (runW emp []) 0 := fun b hb => by injection hb with hb; subst hb; exact Nat.le_refl _
 clear hσ2
 refine specDoR (a := ⟨2, p.id, emp⟩) x2 (fun b hb => by have := z2 b hb; omega) (by rw [eml]; omega) fun σ3 k3 x3 => ?_
 have z3 := leW_step (a := ⟨2, p.id, emp⟩) z2
 have hs3 : stepW (runW emp []) [⟨2, p.id, emp⟩] = runW emp [⟨2, p.id, emp⟩] := rfl
 rw [hs3] at x3 z3
 simp only [eml] at z3
 have K3 := k2.trans k3
 by_cases hpn : p.props = []
 ·have hl0 : ¬ (0 : Int) < (p.props.length : Int) := by rw [hpn]; exact fun h => by cases h
  have hpb : propsB p.kind p.props = .ok emp := by unfold propsB; rw [if_pos hpn]
  rw [hpb] at hok hbad
  simp only at hok hbad
  by_cases hr0 : p.rea = 0
  ·have hac : actsA p emp = [⟨2, p.id, emp⟩] := by unfold actsA; rw [if_pos hpn, if_pos hr0]
   rw [hac] at hok hbad
   simp (disch := first | assumption | simp) only [↓sbD, sbU, tyB, decide_false, ↓reduceIte, Nat.reduceEqDiff, Nat.reduceLT, reduceCtorEq, isConst, hlen, hl0, hr0]
   have gb3 := (K3.at gb1 (by simp) (by simp)).1
   have gc3 := (K3.at gc1 (by simp) (by simp)).1
   refine specRFirstA ?_
   simp (disch := first | assumption | simp) only [↓sbD, sbU, ↓reduceIte, Nat.reduceEqDiff, Nat.reduceLT]
   refine specKMade x3 (fun bb hbb => ?_) fun k q hr hk => ?_
   ·have hle := z3 bb hbb
    simp (disch := first | assumption | simp) only [↓sbD, sbU, tyB, ↓reduceIte, Nat.reduceEqDiff, Nat.reduceLT, AS_new, zeFra, zeFlt]
    intro d hd e he
    have hed : e ≠ d := by rintro rfl; rw [AHeap.get_set_same] at he; cases he
    replace he : (σ3).get e = .dead := by rw [AHeap.get_set_ne _ _ hed.symm] at he; exact he
    have ed : ∀ (τ : AHeap) o, (AHeap.set τ e o).get d = τ.get d := fun τ o => AHeap.get_set_ne _ _ hed
    have de : ∀ (τ : AHeap) o, (AHeap.set τ d o).get e = τ.get e := fun τ o => AHeap.get_set_ne _ _ hed.symm
    simp (disch := first | assumption | simp) only [↓sbD, sbU, tyB, decide_false, ↓reduceIte, Nat.reduceEqDiff, Nat.reduceLT, Nat.reduceAdd, Nat.reduceLeDiff, reduceCtorEq, isConst, splice, ed, de]
    generalize hσ7 : AHeap.set (AHeap.set (AHeap.set (AHeap.set σ3 d _) e _) d _) e _ = σ7
    have k7 : Kept σ3 [x] σ7 [x] := by rw [← hσ7]; exact ((((Kept.refl _ _).setD hd).setD he).setD hd).setD he
    have gd7 : σ7.get d = .cells [.int .i64 (firstA p.kind), .string bb] true 0 := by rw [← hσ7, ed]; exact AHeap.get_set_same _ _ _
    have ge7 : σ7.get e = .cells [.int .i64 0, .int .i64 0, .int .i64 0] true 0 := by rw [← hσ7]; exact AHeap.get_set_same _ _ _
    have K7 := (K3.trans k7).wid (gp := []) (gp' := []) (fun _ h => by cases h) (fun _ h => by cases h)
    clear hσ7
    refine specDADec (by omega) (by omega) (fun y hy v2 σ8 hv2 k8 => ?_) fun k rr a hy hk σ8 k8 => ?_
    ·obtain ⟨up, uw, us, uf, uc, e1, e2, e3, e4, e5, rfl⟩ := hv2
     have K8 := K7.trans k8
     have gb8 := (K8.at gb1 (by simp) (by simp)).1
     have gc8 := (K8.at gc1 (by simp) (by simp)).1
     have gd8 := (k8.at gd7 (by simp) (by simp)).1
     simp only [pkC]
     have c1 := dl_vc e1
     have c2 := dl_vc e2
     have c3 := dl_vc e3
     have c4 := dl_vc e4
     have c5 := dl_vc e5
     simp (disch := first | assumption | simp) only [↓sbD, sbU, tyB, ↓reduceIte, Nat.reduceEqDiff, Nat.reduceLT, AS_new, zePk, zeFlt]
     intro i hi j hj
     have hji : j ≠ i := by rintro rfl; rw [AHeap.get_set_same] at hj; cases hj
     replace hj : (σ8).get j = .dead := by rw [AHeap.get_set_ne _ _ hji.symm] at hj; exact hj
     have ji : ∀ (τ : AHeap) o, (AHeap.set τ j o).get i = τ.get i := fun τ o => AHeap.get_set_ne _ _ hji
     have ij : ∀ (τ : AHeap) o, (AHeap.set τ i o).get j = τ.get j := fun τ o => AHeap.get_set_ne _ _ hji.symm
     simp (disch := first | assumption | simp) only [↓sbD, sbU, tyB, decide_false, ↓reduceIte, Nat.reduceEqDiff, Nat.reduceLT, Nat.reduceAdd, Nat.reduceLeDiff, reduceCtorEq, isConst, splice, ji, ij, c1.2, c2.2, c3.2, c4.2, c5.2]
     have hib : b ≠ i := (nd hi gb8 (by simp)).symm
     have hic : c ≠ i := (nd hi gc8 (by simp)).symm
     have hjb : b ≠ j := (nd hj gb8 (by simp)).symm
     have hjc : c ≠ j := (nd hj gc8 (by simp)).symm
     have hid : d ≠ i := (nd hi gd8 (by simp)).symm
     have hjd : d ≠ j := (nd hj gd8 (by simp)).symm
     generalize hσ9 : AHeap.set (AHeap.set (AHeap.set (AHeap.set σ8 i _) j _) i _) j _ = σ9
     have k9 : Kept σ8 [] σ9 [] := by rw [← hσ9]; exact ((((Kept.refl _ _).setD hi).setD hj).setD hi).setD hj
     have gj9 : σ9.get j = .cells [.int .i64 0, .int .i64 0, .int .i64 0] true 0 := by rw [← hσ9]; exact AHeap.get_set_same _ _ _
     have gd9 := (k9.at gd8 (by simp) (by simp)).1
     have K9 := K8.trans k9
     have gb9 := (K9.at gb1 (by simp) (by simp)).1
     have gc9 := (K9.at gc1 (by simp) (by simp)).1
     clear hσ9
     simp (disch := first | assumption | simp) only [↓sbD, sbU, tyB, ↓reduceIte, Nat.reduceEqDiff, Nat.reduceLT, Nat.reduceAdd, Nat.reduceLeDiff, pairs, splice, ZV.val, gd9, bc, cb, gb9, gc9, res_cellc, resC_some]
     exact downS_here (hok (firstA p.kind, bb) (by unfold MadeR; rw [hbb]; exact ⟨_, hy, rfl⟩) _ (FIN K9))
    ·have hk0 : ¬ (k : Int) = 0 := by omega
     have K8 := K7.trans k8
     have gb8 := (K8.at gb1 (by simp) (by simp)).1
     have gc8 := (K8.at gc1 (by simp) (by simp)).1
     simp only [zeL, pkC, pkz]
     simp (disch := first | assumption | simp) only [↓sbD, sbU, tyB, ↓reduceIte, Nat.reduceEqDiff, Nat.reduceLT, AS_new, zePk, zeFlt]
     intro i hi j hj
     have hji : j ≠ i := by rintro rfl; rw [AHeap.get_set_same] at hj; cases hj
     replace hj : (σ8).get j = .dead := by rw [AHeap.get_set_ne _ _ hji.symm] at hj; exact hj
     have ji : ∀ (τ : AHeap) o, (AHeap.set τ j o).get i = τ.get i := fun τ o => AHeap.get_set_ne _ _ hji
     have ij : ∀ (τ : AHeap) o, (AHeap.set τ i o).get j = τ.get j := fun τ o => AHeap.get_set_ne _ _ hji.symm
     simp (disch := first | assumption | simp) only [↓sbD, sbU, tyB, ↓reduceIte, Nat.reduceEqDiff, Nat.reduceLT, Nat.reduceAdd, Nat.reduceLeDiff, reduceCtorEq, pairs, isConst, splice, ZV.val, ji, ij, hk0]
     generalize hσ9 : AHeap.set (AHeap.set (AHeap.set (AHeap.set σ8 i _) j _) i _) j _ = σ9
     have k9 : Kept σ8 [] σ9 [] := by rw [← hσ9]; exact ((((Kept.refl _ _).setD hi).setD hj).setD hi).setD hj
     have gj9 : σ9.get j = .cells [.int .i64 (k : Int), .int .i64 (rr : Int), .int .i64 (a : Int)] true 0 := by rw [← hσ9]; exact AHeap.get_set_same _ _ _
     have K9 := K8.trans k9
     have gb9 := (K9.at gb1 (by simp) (by simp)).1
     have gc9 := (K9.at gc1 (by simp) (by simp)).1
     have hjb : b ≠ j := by rintro rfl; rw [gb9] at gj9; cases gj9
     clear hσ9
     have bj : ∀ (τ : AHeap) o, (AHeap.set τ b o).get j = τ.get j := fun τ o => AHeap.get_set_ne _ _ hjb
     simp (disch := first | assumption | simp) only [↓sbD, sbU, tyB, ↓reduceIte, Nat.reduceEqDiff, Nat.reduceLT, Nat.reduceAdd, Nat.reduceLeDiff, splice, bc, gb9, gc9]
     refine drawS_l (fl := [(1, 2)]) (by kernel_rfl) ?_ ?_
     rotate_left; simp only [lastP_cc, lastP_one]; rotate_left
     ·simp only [List.all_cons, List.all_nil, floatS, List.getElem?_cons_succ, List.getElem?_cons_zero, List.getElem?_toArray, Region.wanted, Bool.not_true, Bool.not_false, Bool.or_true, reads, looksWeak, aev_tmp, upd_at, ↓reduceIte, Nat.reduceEqDiff, Nat.reduceLT, Nat.reduceAdd, blkOf, oeq_refl, dead_cells, Bool.and_self, Bool.false_eq_true, Bool.not_false, gj9, bj]
      try rfl
     simp (disch := first | assumption | simp) only [↓sbD, sbU, tyB, ↓reduceIte, Nat.reduceEqDiff, Nat.reduceLT, Nat.reduceAdd, Nat.reduceLeDiff, cb, res_cellc, resC_some]
     exact downS_here (hbad k rr a (by unfold MadeR; rw [hbb]; exact ⟨_, hy, rfl⟩) hk _ (FIN K9))
   ·have hk0 : ¬ (k : Int) = 0 := by omega
    simp (disch := first | assumption | simp) only [↓sbD, sbU, tyB, ↓reduceIte, Nat.reduceEqDiff, Nat.reduceLT, AS_new, zeFra, zeFlt]
    intro d hd e he
    have hed : e ≠ d := by rintro rfl; rw [AHeap.get_set_same] at he; cases he
    replace he : (σ3).get e = .dead := by rw [AHeap.get_set_ne _ _ hed.symm] at he; exact he
    have ed : ∀ (τ : AHeap) o, (AHeap.set τ e o).get d = τ.get d := fun τ o => AHeap.get_set_ne _ _ hed
    have de : ∀ (τ : AHeap) o, (AHeap.set τ d o).get e = τ.get e := fun τ o => AHeap.get_set_ne _ _ hed.symm
    simp (disch := first | assumption | simp) only [↓sbD, sbU, tyB, ↓reduceIte, Nat.reduceEqDiff, Nat.reduceLT, Nat.reduceAdd, Nat.reduceLeDiff, reduceCtorEq, isConst, splice, ed, de, hk0]
    generalize hσ7 : AHeap.set (AHeap.set (AHeap.set (AHeap.set σ3 d _) e _) d _) e _ = σ7
    have k7 : Kept σ3 [x] σ7 [x] := by rw [← hσ7]; exact ((((Kept.refl _ _).setD hd).setD he).setD hd).setD he
    have gd7 : σ7.get d = .cells [.int .i64 0, .string emp] true 0 := by rw [← hσ7, ed]; exact AHeap.get_set_same _ _ _
    have ge7 : σ7.get e = .cells [.int .i64 (k : Int), .int .i64 129, .int .i64 (q : Int)] true 0 := by rw [← hσ7]; exact AHeap.get_set_same _ _ _
    have K7 := (K3.trans k7).wid (gp := []) (gp' := []) (fun _ h => by cases h) (fun _ h => by cases h)
    clear hσ7
    have gb7 := (K7.at gb1 (by simp) (by simp)).1
    have gc7 := (K7.at gc1 (by simp) (by simp)).1
    have heb : b ≠ e := by rintro rfl; rw [gb7] at ge7; cases ge7
    have be : ∀ (τ : AHeap) o, (AHeap.set τ b o).get e = τ.get e := fun τ o => AHeap.get_set_ne _ _ heb
    simp (disch := first | assumption | simp) only [↓sbD, sbU, tyB, ↓reduceIte, Nat.reduceEqDiff, Nat.reduceLT, Nat.reduceAdd, Nat.reduceLeDiff, splice, bc, gb7, gc7]
    refine drawS_l (fl := [(1, 2)]) (by kernel_rfl) ?_ ?_
    rotate_left; simp only [lastP_cc, lastP_one]; rotate_left
    ·simp only [List.all_cons, List.all_nil, floatS, List.getElem?_cons_succ, List.getElem?_cons_zero, List.getElem?_toArray, Region.wanted, Bool.not_true, Bool.not_false, Bool.or_true, reads, looksWeak, aev_tmp, upd_at, ↓reduceIte, Nat.reduceEqDiff, Nat.reduceLT, Nat.reduceAdd, blkOf, oeq_refl, dead_cells, Bool.and_self, Bool.false_eq_true, Bool.not_false, ge7, be]
     try rfl
    simp (disch := first | assumption | simp) only [↓sbD, sbU, tyB, ↓reduceIte, Nat.reduceEqDiff, Nat.reduceLT, Nat.reduceAdd, Nat.reduceLeDiff, cb, res_cellc, resC_some]
    exact downS_here (hbad k 129 q (by unfold MadeR; rw [hr]) hk _ (FIN K7))
  ·have hac : actsA p emp = [⟨2, p.id, emp⟩, ⟨1, p.rea, emp⟩] := by unfold actsA; rw [if_pos hpn, if_neg hr0]
   rw [hac] at hok hbad
   simp (disch := first | assumption | simp) only [↓sbD, sbU, tyB, ↓reduceIte, Nat.reduceEqDiff, Nat.reduceLT, Nat.reduceAdd, Nat.reduceLeDiff, reduceCtorEq, pairs, isConst, splice, ZV.val, hr0]
   refine specDoR (a := ⟨1, p.rea, emp⟩) x3 (fun b hb => by have := z3 b hb; omega) (by rw [eml]; omega) fun σ4 k4 x4 => ?_
   have z4 := leW_step (a := ⟨1, p.rea, emp⟩) z3
   have hs4 : stepW (runW emp [⟨2, p.id, emp⟩]) [⟨1, p.rea, emp⟩] = runW emp [⟨2, p.id, emp⟩, ⟨1, p.rea, emp⟩] := by rw [show runW emp [⟨2, p.id, emp⟩] = stepW (runW emp []) [⟨2, p.id, emp⟩] from rfl, stepW_app]; rfl
   rw [hs4] at x4 z4
   simp only [eml] at z4
   have K4 := K3.trans k4
   simp (disch := first | assumption | simp) only [↓sbD, sbU, tyB, decide_false, ↓reduceIte, Nat.reduceEqDiff, Nat.reduceLT, reduceCtorEq, isConst, hlen, hl0]
   have gb4 := (K4.at gb1 (by simp) (by simp)).1
   have gc4 := (K4.at gc1 (by simp) (by simp)).1
   refine specRFirstA ?_
   simp (disch := first | assumption | simp) only [↓sbD, sbU, ↓reduceIte, Nat.reduceEqDiff, Nat.reduceLT]
   refine specKMade x4 (fun bb hbb => ?_) fun k q hr hk => ?_
   ·have hle := z4 bb hbb
    simp (disch := first | assumption | simp) only [↓sbD, sbU, tyB, ↓reduceIte, Nat.reduceEqDiff, Nat.reduceLT, AS_new, zeFra, zeFlt]
    intro d hd e he
    have hed : e ≠ d := by rintro rfl; rw [AHeap.get_set_same] at he; cases he
    replace he : (σ4).get e = .dead := by rw [AHeap.get_set_ne _ _ hed.symm] at he; exact he
    have ed : ∀ (τ : AHeap) o, (AHeap.set τ e o).get d = τ.get d := fun τ o => AHeap.get_set_ne _ _ hed
    have de : ∀ (τ : AHeap) o, (AHeap.set τ d o).get e = τ.get e := fun τ o => AHeap.get_set_ne _ _ hed.symm
    simp (disch := first | assumption | simp) only [↓sbD, sbU, tyB, decide_false, ↓reduceIte, Nat.reduceEqDiff, Nat.reduceLT, Nat.reduceAdd, Nat.reduceLeDiff, reduceCtorEq, isConst, splice, ed, de]
    generalize hσ7 : AHeap.set (AHeap.set (AHeap.set (AHeap.set σ4 d _) e _) d _) e _ = σ7
    have k7 : Kept σ4 [x] σ7 [x] := by rw [← hσ7]; exact ((((Kept.refl _ _).setD hd).setD he).setD hd).setD he
    have gd7 : σ7.get d = .cells [.int .i64 (firstA p.kind), .string bb] true 0 := by rw [← hσ7, ed]; exact AHeap.get_set_same _ _ _
    have ge7 : σ7.get e = .cells [.int .i64 0, .int .i64 0, .int .i64 0] true 0 := by rw [← hσ7]; exact AHeap.get_set_same _ _ _
    have K7 := (K4.trans k7).wid (gp := []) (gp' := []) (fun _ h => by cases h) (fun _ h => by cases h)
    clear hσ7
    refine specDADec (by omega) (by omega) (fun y hy v2 σ8 hv2 k8 => ?_) fun k rr a hy hk σ8 k8 => ?_
    ·obtain ⟨up, uw, us, uf, uc, e1, e2, e3, e4, e5, rfl⟩ := hv2
     have K8 := K7.trans k8
     have gb8 := (K8.at gb1 (by simp) (by simp)).1
     have gc8 := (K8.at gc1 (by simp) (by simp)).1
     have gd8 := (k8.at gd7 (by simp) (by simp)).1
     simp only [pkC]
     have c1 := dl_vc e1
     have c2 := dl_vc e2
     have c3 := dl_vc e3
     have c4 := dl_vc e4
     have c5 := dl_vc e5
     simp (disch := first | assumption | simp) only [↓sbD, sbU, tyB, ↓reduceIte, Nat.reduceEqDiff, Nat.reduceLT, AS_new, zePk, zeFlt]
     intro i hi j hj
     have hji : j ≠ i := by rintro rfl; rw [AHeap.get_set_same] at hj; cases hj
     replace hj : (σ8).get j = .dead := by rw [AHeap.get_set_ne _ _ hji.symm] at hj; exact hj
     have ji : ∀ (τ : AHeap) o, (AHeap.set τ j o).get i = τ.get i := fun τ o => AHeap.get_set_ne _ _ hji
     have ij : ∀ (τ : AHeap) o, (AHeap.set τ i o).get j = τ.get j := fun τ o => AHeap.get_set_ne _ _ hji.symm
     simp (disch := first | assumption | simp) only [↓sbD, sbU, tyB, decide_false, ↓reduceIte, Nat.reduceEqDiff, Nat.reduceLT, Nat.reduceAdd, Nat.reduceLeDiff, reduceCtorEq, isConst, splice, ji, ij, c1.2, c2.2, c3.2, c4.2, c5.2]
     have hib : b ≠ i := (nd hi gb8 (by simp)).symm
     have hic : c ≠ i := (nd hi gc8 (by simp)).symm
     have hjb : b ≠ j := (nd hj gb8 (by simp)).symm
     have hjc : c ≠ j := (nd hj gc8 (by simp)).symm
     have hid : d ≠ i := (nd hi gd8 (by simp)).symm
     have hjd : d ≠ j := (nd hj gd8 (by simp)).symm
     generalize hσ9 : AHeap.set (AHeap.set (AHeap.set (AHeap.set σ8 i _) j _) i _) j _ = σ9
     have k9 : Kept σ8 [] σ9 [] := by rw [← hσ9]; exact ((((Kept.refl _ _).setD hi).setD hj).setD hi).setD hj
     have gj9 : σ9.get j = .cells [.int .i64 0, .int .i64 0, .int .i64 0] true 0 := by rw [← hσ9]; exact AHeap.get_set_same _ _ _
     have gd9 := (k9.at gd8 (by simp) (by simp)).1
     have K9 := K8.trans k9
     have gb9 := (K9.at gb1 (by simp) (by simp)).1
     have gc9 := (K9.at gc1 (by simp) (by simp)).1
     clear hσ9
     simp (disch := first | assumption | simp) only [↓sbD, sbU, tyB, ↓reduceIte, Nat.reduceEqDiff, Nat.reduceLT, Nat.reduceAdd, Nat.reduceLeDiff, pairs, splice, ZV.val, gd9, bc, cb, gb9, gc9, res_cellc, resC_some]
     exact downS_here (hok (firstA p.kind, bb) (by unfold MadeR; rw [hbb]; exact ⟨_, hy, rfl⟩) _ (FIN K9))
    ·have hk0 : ¬ (k : Int) = 0 := by omega
     have K8 := K7.trans k8
     have gb8 := (K8.at gb1 (by simp) (by simp)).1
     have gc8 := (K8.at gc1 (by simp) (by simp)).1
     simp only [zeL, pkC, pkz]
     simp (disch := first | assumption | simp) only [↓sbD, sbU, tyB, ↓reduceIte, Nat.reduceEqDiff, Nat.reduceLT, AS_new, zePk, zeFlt]
     intro i hi j hj
     have hji : j ≠ i := by rintro rfl; rw [AHeap.get_set_same] at hj; cases hj
     replace hj : (σ8).get j = .dead := by rw [AHeap.get_set_ne _ _ hji.symm] at hj; exact hj
     have ji : ∀ (τ : AHeap) o, (AHeap.set τ j o).get i = τ.get i := fun τ o => AHeap.get_set_ne _ _ hji
     have ij : ∀ (τ : AHeap) o, (AHeap.set τ i o).get j = τ.get j := fun τ o => AHeap.get_set_ne _ _ hji.symm
     simp (disch := first | assumption | simp) only [↓sbD, sbU, tyB, ↓reduceIte, Nat.reduceEqDiff, Nat.reduceLT, Nat.reduceAdd, Nat.reduceLeDiff, reduceCtorEq, pairs, isConst, splice, ZV.val, ji, ij, hk0]
     generalize hσ9 : AHeap.set (AHeap.set (AHeap.set (AHeap.set σ8 i _) j _) i _) j _ = σ9
     have k9 : Kept σ8 [] σ9 [] := by rw [← hσ9]; exact ((((Kept.refl _ _).setD hi).setD hj).setD hi).setD hj
     have gj9 : σ9.get j = .cells [.int .i64 (k : Int), .int .i64 (rr : Int), .int .i64 (a : Int)] true 0 := by rw [← hσ9]; exact AHeap.get_set_same _ _ _
     have K9 := K8.trans k9
     have gb9 := (K9.at gb1 (by simp) (by simp)).1
     have gc9 := (K9.at gc1 (by simp) (by simp)).1
     have hjb : b ≠ j := by rintro rfl; rw [gb9] at gj9; cases gj9
     clear hσ9
     have bj : ∀ (τ : AHeap) o, (AHeap.set τ b o).get j = τ.get j := fun τ o => AHeap.get_set_ne _ _ hjb
     simp (disch := first | assumption | simp) only [↓sbD, sbU, tyB, ↓reduceIte, Nat.reduceEqDiff, Nat.reduceLT, Nat.reduceAdd, Nat.reduceLeDiff, splice, bc, gb9, gc9]
     refine drawS_l (fl := [(1, 2)]) (by kernel_rfl) ?_ ?_
     rotate_left; simp only [lastP_cc, lastP_one]; rotate_left
     ·simp only [List.all_cons, List.all_nil, floatS, List.getElem?_cons_succ, List.getElem?_cons_zero, List.getElem?_toArray, Region.wanted, Bool.not_true, Bool.not_false, Bool.or_true, reads, looksWeak, aev_tmp, upd_at, ↓reduceIte, Nat.reduceEqDiff, Nat.reduceLT, Nat.reduceAdd, blkOf, oeq_refl, dead_cells, Bool.and_self, Bool.false_eq_true, Bool.not_false, gj9, bj]
      try rfl
     simp (disch := first | assumption | simp) only [↓sbD, sbU, tyB, ↓reduceIte, Nat.reduceEqDiff, Nat.reduceLT, Nat.reduceAdd, Nat.reduceLeDiff, cb, res_cellc, resC_some]
     exact downS_here (hbad k rr a (by unfold MadeR; rw [hbb]; exact ⟨_, hy, rfl⟩) hk _ (FIN K9))
   ·have hk0 : ¬ (k : Int) = 0 := by omega
    simp (disch := first | assumption | simp) only [↓sbD, sbU, tyB, ↓reduceIte, Nat.reduceEqDiff, Nat.reduceLT, AS_new, zeFra, zeFlt]
    intro d hd e he
    have hed : e ≠ d := by rintro rfl; rw [AHeap.get_set_same] at he; cases he
    replace he : (σ4).get e = .dead := by rw [AHeap.get_set_ne _ _ hed.symm] at he; exact he
    have ed : ∀ (τ : AHeap) o, (AHeap.set τ e o).get d = τ.get d := fun τ o => AHeap.get_set_ne _ _ hed
    have de : ∀ (τ : AHeap) o, (AHeap.set τ d o).get e = τ.get e := fun τ o => AHeap.get_set_ne _ _ hed.symm
    simp (disch := first | assumption | simp) only [↓sbD, sbU, tyB, ↓reduceIte, Nat.reduceEqDiff, Nat.reduceLT, Nat.reduceAdd, Nat.reduceLeDiff, reduceCtorEq, isConst, splice, ed, de, hk0]
    generalize hσ7 : AHeap.set (AHeap.set (AHeap.set (AHeap.set σ4 d _) e _) d _) e _ = σ7
    have k7 : Kept σ4 [x] σ7 [x] := by rw [← hσ7]; exact ((((Kept.refl _ _).setD hd).setD he).setD hd).setD he
    have gd7 : σ7.get d = .cells [.int .i64 0, .string emp] true 0 := by rw [← hσ7, ed]; exact AHeap.get_set_same _ _ _
    have ge7 : σ7.get e = .cells [.int .i64 (k : Int), .int .i64 129, .int .i64 (q : Int)] true 0 := by rw [← hσ7]; exact AHeap.get_set_same _ _ _
    have K7 := (K4.trans k7).wid (gp := []) (gp' := []) (fun _ h => by cases h) (fun _ h => by cases h)
    clear hσ7
    have gb7 := (K7.at gb1 (by simp) (by simp)).1
    have gc7 := (K7.at gc1 (by simp) (by simp)).1
    have heb : b ≠ e := by rintro rfl; rw [gb7] at ge7; cases ge7
    have be : ∀ (τ : AHeap) o, (AHeap.set τ b o).get e = τ.get e := fun τ o => AHeap.get_set_ne _ _ heb
    simp (disch := first | assumption | simp) only [↓sbD, sbU, tyB, ↓reduceIte, Nat.reduceEqDiff, Nat.reduceLT, Nat.reduceAdd, Nat.reduceLeDiff, splice, bc, gb7, gc7]
    refine drawS_l (fl := [(1, 2)]) (by kernel_rfl) ?_ ?_
    rotate_left; simp only [lastP_cc, lastP_one]; rotate_left
    ·simp only [List.all_cons, List.all_nil, floatS, List.getElem?_cons_succ, List.getElem?_cons_zero, List.getElem?_toArray, Region.wanted, Bool.not_true, Bool.not_false, Bool.or_true, reads, looksWeak, aev_tmp, upd_at, ↓reduceIte, Nat.reduceEqDiff, Nat.reduceLT, Nat.reduceAdd, blkOf, oeq_refl, dead_cells, Bool.and_self, Bool.false_eq_true, Bool.not_false, ge7, be]
     try rfl
    simp (disch := first | assumption | simp) only [↓sbD, sbU, tyB, ↓reduceIte, Nat.reduceEqDiff, Nat.reduceLT, Nat.reduceAdd, Nat.reduceLeDiff, cb, res_cellc, resC_some]
    exact downS_here (hbad k 129 q (by unfold MadeR; rw [hr]) hk _ (FIN K7))
 ·have hl0 : (0 : Int) < (p.props.length : Int) := by
   have : p.props.length ≠ 0 := fun h => hpn (List.length_eq_zero_iff.1 h)
   omega
  have STEP : ∀ {P : Prop}, (p.rea = 0 → P) → (p.rea ≠ 0 → P) → P := fun a b => by
   by_cases h : p.rea = 0
   ·exact a h
   ·exact b h
  refine STEP (fun hr0 => ?_) fun hr0 => ?_
  all_goals
   first | (have hr2 := eq_false hr0; clear hr0) | (have hr2 := eq_true hr0; clear hr0)
   simp (disch := first | assumption | simp) only [↓sbD, sbU, tyB, decide_false, ↓reduceIte, Nat.reduceEqDiff, Nat.reduceLT, Nat.reduceAdd, Nat.reduceLeDiff, reduceCtorEq, pairs, isConst, splice, ZV.val, hlen, hl0, hr2]
   refine specDoR (a := ⟨1, p.rea, emp⟩) (by first | exact x3 | (rw [hr0]; exact x3)) (fun b hb => by have := z3 b hb; omega) (by rw [eml]; omega) fun σ4 k4 x4 => ?_
   have z4 := leW_step (a := ⟨1, p.rea, emp⟩) z3
   have hs4 : stepW (runW emp [⟨2, p.id, emp⟩]) [⟨1, p.rea, emp⟩] = runW emp [⟨2, p.id, emp⟩, ⟨1, p.rea, emp⟩] := by rw [show runW emp [⟨2, p.id, emp⟩] = stepW (runW emp []) [⟨2, p.id, emp⟩] from rfl, stepW_app]; rfl
   rw [hs4] at x4 z4
   simp only [eml] at z4
   have K4 := K3.trans k4
   have gb4 := (K4.at gb1 (by simp) (by simp)).1
   have gc4 := (K4.at gc1 (by simp) (by simp)).1
   simp (disch := first | assumption | simp) only [↓sbD, sbU, tyB, ↓reduceIte, Nat.reduceEqDiff, Nat.reduceLT, reduceCtorEq, isConst, hlen, hl0]
   refine specREncode d1 hsm (fun cc hce => ?_) fun k r a hce => ?_
   ·have hpb : propsB p.kind p.props = .ok cc := by unfold propsB; rw [if_neg hpn, hce]
    have hcz := encP_size hf hce
    rw [hpb] at hok hbad
    simp only at hok hbad
    simp (disch := first | assumption | simp) only [↓sbD, sbU, tyB, decide_false, ↓reduceIte, Nat.reduceEqDiff, Nat.reduceLT, Nat.reduceAdd, Nat.reduceLeDiff, reduceCtorEq, pairs, isConst, splice, ZV.val, AS_new, zeFlt]
    intro g hg
    have hgb : b ≠ g := (nd hg gb4 (by simp)).symm
    have hgc : c ≠ g := (nd hg gc4 (by simp)).symm
    have gb : ∀ (τ : AHeap) o, (AHeap.set τ g o).get b = τ.get b := fun τ o => AHeap.get_set_ne _ _ hgb.symm
    have gc : ∀ (τ : AHeap) o, (AHeap.set τ g o).get c = τ.get c := fun τ o => AHeap.get_set_ne _ _ hgc.symm
    have bg : ∀ (τ : AHeap) o, (AHeap.set τ b o).get g = τ.get g := fun τ o => AHeap.get_set_ne _ _ hgb
    generalize hσ5 : AHeap.set (AHeap.set σ4 g _) g _ = σ5
    have k5 : Kept σ4 [x] σ5 [x] := by rw [← hσ5]; exact ((Kept.refl _ _).setD hg).setD hg
    have x5 : XRun σ5 x (runW emp [⟨2, p.id, emp⟩, ⟨1, p.rea, emp⟩]) := by
     have := (((Kept.refl σ4 []).setD (o := AObj.cells [.int .i64 0, .int .i64 0, .int .i64 0] true 0) hg).setD (o := AObj.cells [.int .i64 0, .int .i64 0, .int .i64 0] true 0) hg)
     rw [← hσ5]; exact x4.kept this (by simp)
    have gg5 : σ5.get g = .cells [.int .i64 0, .int .i64 0, .int .i64 0] true 0 := by rw [← hσ5]; exact AHeap.get_set_same _ _ _
    have K5 := K4.trans k5
    clear hσ5
    refine specDoR (a := ⟨8, 0, cc⟩) x5 (fun b hb => by have := z4 b hb; omega) (by simp only; omega) fun σ6 k6 x6 => ?_
    have z6 := leW_step (a := ⟨8, 0, cc⟩) z4
    have hs6 : stepW (runW emp [⟨2, p.id, emp⟩, ⟨1, p.rea, emp⟩]) [⟨8, 0, cc⟩] = runW emp (actsA p cc) := by
     rw [show runW emp [⟨2, p.id, emp⟩, ⟨1, p.rea, emp⟩] = stepW (runW emp []) [⟨2, p.id, emp⟩, ⟨1, p.rea, emp⟩] from rfl, stepW_app]; unfold actsA; rw [if_neg hpn]; rfl
    rw [hs6] at x6 z6
    simp only [] at z6
    have K6 := K5.trans k6
    simp (disch := first | assumption | simp) only [↓sbD, sbU, tyB, ↓reduceIte, Nat.reduceEqDiff, Nat.reduceLT, reduceCtorEq]
    have gb6 := (K6.at gb1 (by simp) (by simp)).1
    have gc6 := (K6.at gc1 (by simp) (by simp)).1
    refine specRFirstA ?_
    simp (disch := first | assumption | simp) only [↓sbD, sbU, ↓reduceIte, Nat.reduceEqDiff, Nat.reduceLT]
    refine specKMade x6 (fun bb hbb => ?_) fun k q hr hk => ?_
    ·have hle := z6 bb hbb
     simp (disch := first | assumption | simp) only [↓sbD, sbU, tyB, ↓reduceIte, Nat.reduceEqDiff, Nat.reduceLT, AS_new, zeFra, zeFlt]
     intro d hd e he
     have hed : e ≠ d := by rintro rfl; rw [AHeap.get_set_same] at he; cases he
     replace he : (σ6).get e = .dead := by rw [AHeap.get_set_ne _ _ hed.symm] at he; exact he
     have ed : ∀ (τ : AHeap) o, (AHeap.set τ e o).get d = τ.get d := fun τ o => AHeap.get_set_ne _ _ hed
     have de : ∀ (τ : AHeap) o, (AHeap.set τ d o).get e = τ.get e := fun τ o => AHeap.get_set_ne _ _ hed.symm
     simp (disch := first | assumption | simp) only [↓sbD, sbU, tyB, decide_false, ↓reduceIte, Nat.reduceEqDiff, Nat.reduceLT, Nat.reduceAdd, Nat.reduceLeDiff, reduceCtorEq, isConst, splice, ed, de]
     generalize hσ7 : AHeap.set (AHeap.set (AHeap.set (AHeap.set σ6 d _) e _) d _) e _ = σ7
     have k7 : Kept σ6 [x] σ7 [x] := by rw [← hσ7]; exact ((((Kept.refl _ _).setD hd).setD he).setD hd).setD he
     have gd7 : σ7.get d = .cells [.int .i64 (firstA p.kind), .string bb] true 0 := by rw [← hσ7, ed]; exact AHeap.get_set_same _ _ _
     have ge7 : σ7.get e = .cells [.int .i64 0, .int .i64 0, .int .i64 0] true 0 := by rw [← hσ7]; exact AHeap.get_set_same _ _ _
     have K7 := (K6.trans k7).wid (gp := []) (gp' := []) (fun _ h => by cases h) (fun _ h => by cases h)
     clear hσ7
     refine specDADec (by omega) (by omega) (fun y hy v2 σ8 hv2 k8 => ?_) fun k rr a hy hk σ8 k8 => ?_
     ·obtain ⟨up, uw, us, uf, uc, e1, e2, e3, e4, e5, rfl⟩ := hv2
      have K8 := K7.trans k8
      have gb8 := (K8.at gb1 (by simp) (by simp)).1
      have gc8 := (K8.at gc1 (by simp) (by simp)).1
      have gd8 := (k8.at gd7 (by simp) (by simp)).1
      simp only [pkC]
      have c1 := dl_vc e1
      have c2 := dl_vc e2
      have c3 := dl_vc e3
      have c4 := dl_vc e4
      have c5 := dl_vc e5
      simp (disch := first | assumption | simp) only [↓sbD, sbU, tyB, ↓reduceIte, Nat.reduceEqDiff, Nat.reduceLT, AS_new, zePk, zeFlt]
      intro i hi j hj
      have hji : j ≠ i := by rintro rfl; rw [AHeap.get_set_same] at hj; cases hj
      replace hj : (σ8).get j = .dead := by rw [AHeap.get_set_ne _ _ hji.symm] at hj; exact hj
      have ji : ∀ (τ : AHeap) o, (AHeap.set τ j o).get i = τ.get i := fun τ o => AHeap.get_set_ne _ _ hji
      have ij : ∀ (τ : AHeap) o, (AHeap.set τ i o).get j = τ.get j := fun τ o => AHeap.get_set_ne _ _ hji.symm
      simp (disch := first | assumption | simp) only [↓sbD, sbU, tyB, decide_false, ↓reduceIte, Nat.reduceEqDiff, Nat.reduceLT, Nat.reduceAdd, Nat.reduceLeDiff, reduceCtorEq, isConst, splice, ji, ij, c1.2, c2.2, c3.2, c4.2, c5.2]
      have hib : b ≠ i := (nd hi gb8 (by simp)).symm
      have hic : c ≠ i := (nd hi gc8 (by simp)).symm
      have hjb : b ≠ j := (nd hj gb8 (by simp)).symm
      have hjc : c ≠ j := (nd hj gc8 (by simp)).symm
      have hid : d ≠ i := (nd hi gd8 (by simp)).symm
      have hjd : d ≠ j := (nd hj gd8 (by simp)).symm
      generalize hσ9 : AHeap.set (AHeap.set (AHeap.set (AHeap.set σ8 i _) j _) i _) j _ = σ9
      have k9 : Kept σ8 [] σ9 [] := by rw [← hσ9]; exact ((((Kept.refl _ _).setD hi).setD hj).setD hi).setD hj
      have gj9 : σ9.get j = .cells [.int .i64 0, .int .i64 0, .int .i64 0] true 0 := by rw [← hσ9]; exact AHeap.get_set_same _ _ _
      have gd9 := (k9.at gd8 (by simp) (by simp)).1
      have K9 := K8.trans k9
      have gb9 := (K9.at gb1 (by simp) (by simp)).1
      have gc9 := (K9.at gc1 (by simp) (by simp)).1
      clear hσ9
      simp (disch := first | assumption | simp) only [↓sbD, sbU, tyB, ↓reduceIte, Nat.reduceEqDiff, Nat.reduceLT, Nat.reduceAdd, Nat.reduceLeDiff, pairs, splice, ZV.val, gd9, bc, cb, gb9, gc9, res_cellc, resC_some]
      exact downS_here (hok (firstA p.kind, bb) (by unfold MadeR; rw [hbb]; exact ⟨_, hy, rfl⟩) _ (FIN K9))
     ·have hk0 : ¬ (k : Int) = 0 := by omega
      have K8 := K7.trans k8
      have gb8 := (K8.at gb1 (by simp) (by simp)).1
      have gc8 := (K8.at gc1 (by simp) (by simp)).1
      simp only [zeL, pkC, pkz]
      simp (disch := first | assumption | simp) only [↓sbD, sbU, tyB, ↓reduceIte, Nat.reduceEqDiff, Nat.reduceLT, AS_new, zePk, zeFlt]
      intro i hi j hj
      have hji : j ≠ i := by rintro rfl; rw [AHeap.get_set_same] at hj; cases hj
      replace hj : (σ8).get j = .dead := by rw [AHeap.get_set_ne _ _ hji.symm] at hj; exact hj
      have ji : ∀ (τ : AHeap) o, (AHeap.set τ j o).get i = τ.get i := fun τ o => AHeap.get_set_ne _ _ hji
      have ij : ∀ (τ : AHeap) o, (AHeap.set τ i o).get j = τ.get j := fun τ o => AHeap.get_set_ne _ _ hji.symm
      simp (disch := first | assumption | simp) only [↓sbD, sbU, tyB, ↓reduceIte, Nat.reduceEqDiff, Nat.reduceLT, Nat.reduceAdd, Nat.reduceLeDiff, reduceCtorEq, pairs, isConst, splice, ZV.val, ji, ij, hk0]
      generalize hσ9 : AHeap.set (AHeap.set (AHeap.set (AHeap.set σ8 i _) j _) i _) j _ = σ9
      have k9 : Kept σ8 [] σ9 [] := by rw [← hσ9]; exact ((((Kept.refl _ _).setD hi).setD hj).setD hi).setD hj
      have gj9 : σ9.get j = .cells [.int .i64 (k : Int), .int .i64 (rr : Int), .int .i64 (a : Int)] true 0 := by rw [← hσ9]; exact AHeap.get_set_same _ _ _
      have K9 := K8.trans k9
      have gb9 := (K9.at gb1 (by simp) (by simp)).1
      have gc9 := (K9.at gc1 (by simp) (by simp)).1
      have hjb : b ≠ j := by rintro rfl; rw [gb9] at gj9; cases gj9
      clear hσ9
      have bj : ∀ (τ : AHeap) o, (AHeap.set τ b o).get j = τ.get j := fun τ o => AHeap.get_set_ne _ _ hjb
      simp (disch := first | assumption | simp) only [↓sbD, sbU, tyB, ↓reduceIte, Nat.reduceEqDiff, Nat.reduceLT, Nat.reduceAdd, Nat.reduceLeDiff, splice, bc, gb9, gc9]
      refine drawS_l (fl := [(1, 2)]) (by kernel_rfl) ?_ ?_
      rotate_left; simp only [lastP_cc, lastP_one]; rotate_left
      ·simp only [List.all_cons, List.all_nil, floatS, List.getElem?_cons_succ, List.getElem?_cons_zero, List.getElem?_toArray, Region.wanted, Bool.not_true, Bool.not_false, Bool.or_true, reads, looksWeak, aev_tmp, upd_at, ↓reduceIte, Nat.reduceEqDiff, Nat.reduceLT, Nat.reduceAdd, blkOf, oeq_refl, dead_cells, Bool.and_self, Bool.false_eq_true, Bool.not_false, gj9, bj]
       try rfl
      simp (disch := first | assumption | simp) only [↓sbD, sbU, tyB, ↓reduceIte, Nat.reduceEqDiff, Nat.reduceLT, Nat.reduceAdd, Nat.reduceLeDiff, cb, res_cellc, resC_some]
      exact downS_here (hbad k rr a (by unfold MadeR; rw [hbb]; exact ⟨_, hy, rfl⟩) hk _ (FIN K9))
    ·have hk0 : ¬ (k : Int) = 0 := by omega
     simp (disch := first | assumption | simp) only [↓sbD, sbU, tyB, ↓reduceIte, Nat.reduceEqDiff, Nat.reduceLT, AS_new, zeFra, zeFlt]
     intro d hd e he
     have hed : e ≠ d := by rintro rfl; rw [AHeap.get_set_same] at he; cases he
     replace he : (σ6).get e = .dead := by rw [AHeap.get_set_ne _ _ hed.symm] at he; exact he
     have ed : ∀ (τ : AHeap) o, (AHeap.set τ e o).get d = τ.get d := fun τ o => AHeap.get_set_ne _ _ hed
     have de : ∀ (τ : AHeap) o, (AHeap.set τ d o).get e = τ.get e := fun τ o => AHeap.get_set_ne _ _ hed.symm
     simp (disch := first | assumption | simp) only [↓sbD, sbU, tyB, ↓reduceIte, Nat.reduceEqDiff, Nat.reduceLT, Nat.reduceAdd, Nat.reduceLeDiff, reduceCtorEq, isConst, splice, ed, de, hk0]
     generalize hσ7 : AHeap.set (AHeap.set (AHeap.set (AHeap.set σ6 d _) e _) d _) e _ = σ7
     have k7 : Kept σ6 [x] σ7 [x] := by rw [← hσ7]; exact ((((Kept.refl _ _).setD hd).setD he).setD hd).setD he
     have gd7 : σ7.get d = .cells [.int .i64 0, .string emp] true 0 := by rw [← hσ7, ed]; exact AHeap.get_set_same _ _ _
     have ge7 : σ7.get e = .cells [.int .i64 (k : Int), .int .i64 129, .int .i64 (q : Int)] true 0 := by rw [← hσ7]; exact AHeap.get_set_same _ _ _
     have K7 := (K6.trans k7).wid (gp := []) (gp' := []) (fun _ h => by cases h) (fun _ h => by cases h)
     clear hσ7
     have gb7 := (K7.at gb1 (by simp) (by simp)).1
     have gc7 := (K7.at gc1 (by simp) (by simp)).1
     have heb : b ≠ e := by rintro rfl; rw [gb7] at ge7; cases ge7
     have be : ∀ (τ : AHeap) o, (AHeap.set τ b o).get e = τ.get e := fun τ o => AHeap.get_set_ne _ _ heb
     simp (disch := first | assumption | simp) only [↓sbD, sbU, tyB, ↓reduceIte, Nat.reduceEqDiff, Nat.reduceLT, Nat.reduceAdd, Nat.reduceLeDiff, splice, bc, gb7, gc7]
     refine drawS_l (fl := [(1, 2)]) (by kernel_rfl) ?_ ?_
     rotate_left; simp only [lastP_cc, lastP_one]; rotate_left
     ·simp only [List.all_cons, List.all_nil, floatS, List.getElem?_cons_succ, List.getElem?_cons_zero, List.getElem?_toArray, Region.wanted, Bool.not_true, Bool.not_false, Bool.or_true, reads, looksWeak, aev_tmp, upd_at, ↓reduceIte, Nat.reduceEqDiff, Nat.reduceLT, Nat.reduceAdd, blkOf, oeq_refl, dead_cells, Bool.and_self, Bool.false_eq_true, Bool.not_false, ge7, be]
      try rfl
     simp (disch := first | assumption | simp) only [↓sbD, sbU, tyB, ↓reduceIte, Nat.reduceEqDiff, Nat.reduceLT, Nat.reduceAdd, Nat.reduceLeDiff, cb, res_cellc, resC_some]
     exact downS_here (hbad k 129 q (by unfold MadeR; rw [hr]) hk _ (FIN K7))
   ·have hpb : propsB p.kind p.props = .error (k, r, a) := by unfold propsB; rw [if_neg hpn, hce]
    rw [hpb] at hok hbad
    simp only at hok hbad
    have hk := encP_k hce
    have hk0 : ¬ (k : Int) = 0 := by omega
    simp (disch := first | assumption | simp) only [↓sbD, sbU, tyB, ↓reduceIte, Nat.reduceEqDiff, Nat.reduceLT, Nat.reduceAdd, Nat.reduceLeDiff, reduceCtorEq, isConst, splice, AS_new, zeFlt]
    intro g hg
    have hgb : b ≠ g := (nd hg gb4 (by simp)).symm
    have hgc : c ≠ g := (nd hg gc4 (by simp)).symm
    have gb : ∀ (τ : AHeap) o, (AHeap.set τ g o).get b = τ.get b := fun τ o => AHeap.get_set_ne _ _ hgb.symm
    have gc : ∀ (τ : AHeap) o, (AHeap.set τ g o).get c = τ.get c := fun τ o => AHeap.get_set_ne _ _ hgc.symm
    have bg : ∀ (τ : AHeap) o, (AHeap.set τ b o).get g = τ.get g := fun τ o => AHeap.get_set_ne _ _ hgb
    simp (disch := first | assumption | simp) only [↓sbD, sbU, tyB, ↓reduceIte, Nat.reduceEqDiff, Nat.reduceLT, Nat.reduceAdd, Nat.reduceLeDiff, pairs, splice, ZV.val, gb, gc, bc, gb4, gc4, hk0]
    refine drawS_l (fl := [(1, 2)]) (by kernel_rfl) ?_ ?_
    rotate_left; simp only [lastP_cc, lastP_one]; rotate_left
    ·simp only [List.all_cons, List.all_nil, floatS, List.getElem?_cons_succ, List.getElem?_cons_zero, List.getElem?_toArray, Region.wanted, Bool.not_true, Bool.not_false, Bool.or_true, reads, looksWeak, aev_tmp, upd_at, ↓reduceIte, Nat.reduceEqDiff, Nat.reduceLT, Nat.reduceAdd, blkOf, oeq_refl, dead_cells, Bool.and_self, Bool.false_eq_true, Bool.not_false, bg, AHeap.get_set_same]
     try rfl
    simp (disch := first | assumption | simp) only [↓sbD, sbU, tyB, ↓reduceIte, Nat.reduceEqDiff, Nat.reduceLT, Nat.reduceAdd, Nat.reduceLeDiff, cb, res_cellc, resC_some]
    exact downS_here (hbad k r a rfl hk _ (FIN ((K4.trans (((Kept.refl _ [x]).setD hg).setD hg)).wid (fun _ h => by cases h) (fun _ h => by cases h))))
end
set_option maxHeartbeats 4000000
section
variable {σ : AHeap} {Q : Value → AHeap → Prop}
theorem fraEq {cs : Bool} {f : Int} {a : ByteArray} : abin E σ .eql 57 cs (.agg ⟨[.int .i64 f, .string a]⟩) (.agg ⟨[.int .i64 f, .string a]⟩) = some (.bool true) := by
 simp only [abin, nonNum, eqAsk, aeq, aeqs, apart, ty57, ty3, ty9, TI.isAgg, Bool.and_self, Bool.false_eq_true, List.getElem?_cons_zero, List.getElem?_cons_succ, ↓reduceIte, beq_self_eq_true]
 have e1 : (a == a) = true := by rw [bytes_dec]; simp
 rw [e1]
 rfl
theorem specLsameNil (h : Q (.bool true) σ) : CallS E B 40 [.nilIface, flt 0 0 0] σ Q := by
 refine call40 (by simp) ?_
 simp only [strip, bodyOf, Tryz.f40, getD_body, keepN, bareOp_mk, lessOp_mk, List.map_cons, List.map_nil, ↓reduceIte, Nat.reduceEqDiff, Bool.false_eq_true]
 simp only [↓sbD, sbU, ↓reduceIte, Nat.reduceLT, reduceCtorEq, boxS, Edp, dpv]
 refine specNumberNil ?_
 simp only [↓sbD, sbU, tyB, Bool.or_self, ↓reduceIte, Nat.reduceEqDiff, Nat.reduceLT, reduceCtorEq, isConst, eq_self]
 refine drawS_l (fl := [(3, 1), (13, 11), (19, 17)]) (by kernel_rfl) ?_ ?_
 rotate_left; simp only [lastP_cc, lastP_one]; rotate_left
 ·simp only [List.all_cons, List.all_nil, floatS, List.getElem?_cons_succ, List.getElem?_cons_zero, List.getElem?_toArray, Region.wanted, Bool.not_true, Bool.or_true, Bool.true_and, reads, looksWeak, aev_tmp, upd_at, ↓reduceIte, Nat.reduceEqDiff, Nat.reduceLT, Nat.reduceAdd, blkOf, oeq_refl, Bool.and_true, Bool.and_self, Bool.false_eq_true, yield_list, yield_here, yield_next, truth_bool]
  try rfl
 simp only [↓sbD, sbU, ↓reduceIte, Nat.reduceLT]
 exact downS_here h
theorem specLsameE {d k r a : Nat} {z : Value} (he : ErN d (fv r a z) k) (hd : d ≤ 4) (h : Q (.bool true) σ) : CallS E B 40 [fv r a z, flt k r a] σ Q := by
 have hk := he.val
 have hk0 : ¬ (k : Int) = 0 := by omega
 refine call40 (by simp) ?_
 simp only [strip, bodyOf, Tryz.f40, getD_body, keepN, bareOp_mk, lessOp_mk, List.map_cons, List.map_nil, ↓reduceIte, Nat.reduceEqDiff, Bool.false_eq_true]
 simp only [↓sbD, sbU, ↓reduceIte, Nat.reduceLT, reduceCtorEq, boxS, Edp, dpv]
 refine specNumber he hd ?_
 simp only [↓sbD, sbU, tyB, decide_false, Bool.or_self, ↓reduceIte, Nat.reduceEqDiff, Nat.reduceLT, reduceCtorEq, isConst, eq_self, hk0]
 refine specReason ?_
 simp only [↓sbD, sbU, tyB, Bool.or_self, ↓reduceIte, Nat.reduceEqDiff, Nat.reduceLT, reduceCtorEq, isConst, eq_self]
 refine specAt ?_
 simp only [↓sbD, sbU, tyB, Bool.or_self, ↓reduceIte, Nat.reduceEqDiff, Nat.reduceLT, reduceCtorEq, isConst, eq_self]
 refine drawS_l (fl := [(3, 1), (13, 11), (19, 17)]) (by kernel_rfl) ?_ ?_
 rotate_left; simp only [lastP_cc, lastP_one]; rotate_left
 ·simp only [List.all_cons, List.all_nil, floatS, List.getElem?_cons_succ, List.getElem?_cons_zero, List.getElem?_toArray, Region.wanted, Bool.not_true, Bool.or_true, reads, looksWeak, aev_tmp, upd_at, ↓reduceIte, Nat.reduceEqDiff, Nat.reduceLT, Nat.reduceAdd, blkOf, oeq_refl, Bool.and_true, Bool.and_self, Bool.false_eq_true, yield_list, yield_here, yield_next, truth_bool]
  try rfl
 simp only [↓sbD, sbU, ↓reduceIte, Nat.reduceLT]
 exact downS_here h
end
theorem law7 {H : AHeap} {vs : List Value} (hB0 : Ext B H) (h : ArgsTyped E H 8 [54] vs) : CallW E 7 vs H fun r _ => r = .bool true := by
 obtain ⟨u, vs1, rfl, t1, e1⟩ := h.cons'
 obtain rfl := e1.nil'
 obtain ⟨p, hp, hfz⟩ := typed_pk t1
 clear t1 e1 h
 have key : CallS E B 7 [u] .empty fun r _ => r = .bool true := by
  have hp' := hp
  obtain ⟨vp, vw, vs, vf, vc, d1, d2, d3, d4, d5, rfl⟩ := hp'
  have hz := hfz _ rfl
  simp only [pkC] at hz hp hfz ⊢
  refine call7 (by simp) ?_
  simp only [strip, bodyOf, Tryz.f7, getD_body, keepN, bareOp_mk, List.map_cons, List.map_nil, ↓reduceIte, Bool.false_eq_true]
  simp only [↓sbD, sbU, tyB, ↓reduceIte, Nat.reduceEqDiff, Nat.reduceLT, Nat.reduceAdd, Nat.reduceLeDiff, boxS, Edp, dpv, hz]
  refine specKFew hp hfz fun few hfew => ?_
  cases few with
  | false =>
   simp only [↓sbD, sbU, ↓reduceIte, Nat.reduceLT, not_bool]
   refine specS30 ?_
   simp only [↓sbD, sbU, ↓reduceIte, Nat.reduceLT]
   exact downS_here rfl
  | true =>
   have hf := hfew rfl
   have hsm : smallP p.props := ⟨by have := hf.props.1; omega, fun x hx => by have := hf.props.2 x hx; omega⟩
   simp only [↓sbD, sbU, tyB, ↓reduceIte, Nat.reduceEqDiff, Nat.reduceLT, Nat.reduceAdd, Nat.reduceLeDiff, not_bool]
   refine specAEnc hp hfz hsm (fun fb he σ1 k1 => ?_) fun k rr a he σ1 d z k1 hd hn => ?_
   ·simp only [↓sbD, sbU, tyB, ↓reduceIte, Nat.reduceEqDiff, Nat.reduceLT, Nat.reduceAdd, Nat.reduceLeDiff, splice, AS_new, zeFra]
    intro b hb
    generalize hσ2 : AHeap.set (AHeap.set σ1 b _) b _ = σ2
    have gb : σ2.get b = .cells [.int .i64 fb.1, .string fb.2] true 0 := by rw [← hσ2]; exact AHeap.get_set_same _ _ _
    clear hσ2
    refine specDAEnc hp hfz hf.props (fun fc he' σ3 k3 => ?_) fun k rr a he' hk σ3 k3 => by cases he.det he'
    have hfc := he.det he'
    simp only [Except.ok.injEq] at hfc
    subst hfc
    have gb3 := (k3.at gb (by simp) (by simp)).1
    simp only [↓sbD, sbU, tyB, ↓reduceIte, Nat.reduceEqDiff, Nat.reduceLT, AS_new, zeFra, zeFlt]
    intro c hc e he2
    have hbc : b ≠ c := (nd hc gb3 (by simp)).symm
    have hec : e ≠ c := by rintro rfl; rw [AHeap.get_set_same] at he2; cases he2
    replace he2 : σ3.get e = .dead := by rw [AHeap.get_set_ne _ _ hec.symm] at he2; exact he2
    have hbe : b ≠ e := (nd he2 gb3 (by simp)).symm
    have ec : ∀ (τ : AHeap) o, (AHeap.set τ e o).get c = τ.get c := fun τ o => AHeap.get_set_ne _ _ hec
    have ce : ∀ (τ : AHeap) o, (AHeap.set τ c o).get e = τ.get e := fun τ o => AHeap.get_set_ne _ _ hec.symm
    have cb : ∀ (τ : AHeap) o, (AHeap.set τ c o).get b = τ.get b := fun τ o => AHeap.get_set_ne _ _ hbc.symm
    have eb : ∀ (τ : AHeap) o, (AHeap.set τ e o).get b = τ.get b := fun τ o => AHeap.get_set_ne _ _ hbe.symm
    simp only [↓sbD, sbU, tyB, Bool.or_self, ↓reduceIte, Nat.reduceEqDiff, Nat.reduceLT, Nat.reduceAdd, Nat.reduceLeDiff, isConst, splice, ec, ce, cb, eb, gb3, eq_self, fraEq]
    refine specLsameNil ?_
    simp only [↓sbD, sbU, ↓reduceIte, Nat.reduceEqDiff, Nat.reduceLT]
    refine specS30 ?_
    simp only [↓sbD, sbU, ↓reduceIte, Nat.reduceEqDiff, Nat.reduceLT]
    exact downS_here rfl
   ·simp only [↓sbD, sbU, tyB, ↓reduceIte, Nat.reduceEqDiff, Nat.reduceLT, Nat.reduceAdd, Nat.reduceLeDiff, splice, AS_new, zeFra]
    intro b hb
    generalize hσ2 : AHeap.set (AHeap.set σ1 b _) b _ = σ2
    have gb : σ2.get b = .cells [.int .i64 0, .string emp] true 0 := by rw [← hσ2]; exact AHeap.get_set_same _ _ _
    clear hσ2
    refine specDAEnc hp hfz hf.props (fun fc he' σ3 k3 => by cases he.det he') fun k' rr' a' he' hk σ3 k3 => ?_
    have hfc := he.det he'
    simp only [Except.error.injEq, Prod.mk.injEq] at hfc
    obtain ⟨rfl, rfl, rfl⟩ := hfc
    have gb3 := (k3.at gb (by simp) (by simp)).1
    simp only [↓sbD, sbU, tyB, ↓reduceIte, Nat.reduceEqDiff, Nat.reduceLT, AS_new, zeFra, zeFlt]
    intro c hc e he2
    have hbc : b ≠ c := (nd hc gb3 (by simp)).symm
    have hec : e ≠ c := by rintro rfl; rw [AHeap.get_set_same] at he2; cases he2
    replace he2 : σ3.get e = .dead := by rw [AHeap.get_set_ne _ _ hec.symm] at he2; exact he2
    have hbe : b ≠ e := (nd he2 gb3 (by simp)).symm
    have ec : ∀ (τ : AHeap) o, (AHeap.set τ e o).get c = τ.get c := fun τ o => AHeap.get_set_ne _ _ hec
    have ce : ∀ (τ : AHeap) o, (AHeap.set τ c o).get e = τ.get e := fun τ o => AHeap.get_set_ne _ _ hec.symm
    have cb : ∀ (τ : AHeap) o, (AHeap.set τ c o).get b = τ.get b := fun τ o => AHeap.get_set_ne _ _ hbc.symm
    have eb : ∀ (τ : AHeap) o, (AHeap.set τ e o).get b = τ.get b := fun τ o => AHeap.get_set_ne _ _ hbe.symm
    simp only [↓sbD, sbU, tyB, Bool.or_self, ↓reduceIte, Nat.reduceEqDiff, Nat.reduceLT, Nat.reduceAdd, Nat.reduceLeDiff, isConst, splice, ec, ce, cb, eb, gb3, eq_self, fraEq]
    refine specLsameE hn (by omega) ?_
    simp only [↓sbD, sbU, ↓reduceIte, Nat.reduceEqDiff, Nat.reduceLT]
    refine specS30 ?_
    simp only [↓sbD, sbU, ↓reduceIte, Nat.reduceEqDiff, Nat.reduceLT]
    exact downS_here rfl
 exact (key H (ext_holds hB0)).mono fun r H' ⟨σ', _, h⟩ => h
end Go.Proofs.YtonmjhdcijibgaaGreatDoor.AbsA
