/-
  A part of a law's proof.
-/
import Derived.Test.YtccimdfmddomaaaDoorAFrqe
namespace Go.Proofs.YtccimdfmddomaaaDoor.AbsA
open Go AbsYtccimdfmddomaaaDoor Abs
set_option maxRecDepth 100000
set_option maxHeartbeats 2000000
set_option linter.unusedSimpArgs false
set_option linter.unusedVariables false
attribute [local irreducible] afterS afterOpS opSK OpsS TrS CodeS condS condW thenS thenQ guardS guardTS outS drawS trSK consS
section
variable {σ : AHeap} {Q : Value → AHeap → Prop} {x : Nat} {most : Int} {w : ByteArray}
theorem Kept.wid {σ σ' : AHeap} {fp fp' gp gp' : List Nat} (k : Kept σ fp σ' fp') (h1 : ∀ b ∈ fp, b ∈ gp) (h2 : ∀ b ∈ gp', b ∈ fp' ∨ b ∈ gp) : Kept σ gp σ' gp' where
  get b hb hn := k.get b hb fun h => hn (h1 b h)
  new b hb := by
    rcases h2 b hb with h | h
    · rcases k.new b h with h | h
      · exact .inl (h1 b h)
      · exact .inr h
    · exact .inl h
theorem Kept.tmp {σ : AHeap} {c : Nat} {o o' : AObj} (hc : σ.get c = .dead) : Kept σ [] ((σ.set c o).set c o') [] := ((Kept.new' hc).trans (Kept.set (by simp))).wid (fun _ h => h) fun _ h => .inr h
theorem frEq {cs : Bool} {f g : Int} {a b : ByteArray} : abin E σ .eql 37 cs (frV f a) (frV g b) = some (.bool (decide ((f, a) = (g, b)))) := by
  simp only [abin, nonNum, eqAsk, aeq, aeqs, apart, ty37, ty3, ty9, TI.isAgg, Bool.and_self, if_true, Bool.false_eq_true, if_false, List.getElem?_cons_zero, List.getElem?_cons_succ, ↓reduceIte]
  have e1 : (f == g) = decide (f = g) := by by_cases h : f = g <;> simp [h]
  rw [e1, bytes_dec]
  by_cases h1 : f = g <;> by_cases h2 : a = b <;> simp [h1, h2]
theorem frEq0 {cs : Bool} : abin E σ .eql 37 cs (.agg #[.int .i64 0, .string ⟨#[]⟩]) (.agg #[.int .i64 0, .string ⟨#[]⟩]) = some (.bool true) := by
  have := frEq (σ := σ) (cs := cs) (f := 0) (g := 0) (a := ⟨#[]⟩) (b := ⟨#[]⟩)
  rw [decide_eq_true rfl] at this
  exact this
theorem frNe {cs : Bool} {f g : Int} {a b : ByteArray} : abin E σ .neq 37 cs (frV f a) (frV g b) = some (.bool (!decide ((f, a) = (g, b)))) := by
  have := frEq (σ := σ) (cs := cs) (f := f) (g := g) (a := a) (b := b)
  simp only [abin, nonNum, eqAsk, ty37, Bool.and_self, if_true] at this ⊢
  cases h : aeq E σ 64 37 (frV f a) (frV g b) with
  | none => rw [h] at this; cases this
  | some r => rw [h] at this; injection this with this; injection this with this; subst this; rfl
theorem frC_len (a : Fr) : (frC a).length = 2 := rfl
theorem frC_bare (a : Fr) : bareL (frC a) = frC a := rfl
theorem frC_frz (a : Fr) : frzL E.ng E.nb (frC a) = true := by simp [frC, frzL, frz]
theorem frC_oc (a : Fr) : (frC a).all oneCell = true := rfl
theorem DLf.len {v : Value} {l : List Fr} (h : DL frC 2 v l) (σ : AHeap) : abuiltin E σ .len [51] [v] = some (.int .i64 (l.length : Int), σ) := by
  rcases h with ⟨rfl, rfl⟩ | ⟨m, rfl⟩ <;> rfl
theorem DLf.at {v : Value} {l : List Fr} (h : DL frC 2 v l) {i : Nat} (hi : i < l.length) : aindexAddr E 51 v (.int .i64 (i : Int)) = some (dptr (frC l[i] ++ (l.drop (i + 1)).flatMap frC)) := by
  rcases h with ⟨rfl, rfl⟩ | ⟨m, rfl⟩
  · simp at hi
  · rw [ia_dsl hi, drop_flat frC_len hi]; rfl
theorem app_fr {K : Value → AHeap → Prop} {v y : Value} {l xs : List Fr} {fp : List Nat} (hv : DG frC 2 σ v l fp) (hx : DL frC 2 y xs) (hn : l.length + xs.length ≤ 1000000) (hq : ∀ σ' v' fp', Kept σ fp σ' fp' → DG frC 2 σ' v' (l ++ xs) fp' → K v' σ') :
    afterOpS E B (some (.any fun b => aappend E (σ.resize b) [51, 51] [v, y])) σ K :=
  app_deep (by_ := 24) ty51 ty37 rfl (by decide) (by decide) ty51 rfl rfl frC_bare frC_frz frC_oc hv hx (by omega) hq
theorem DG.vc {v : Value} {l : List Fr} {fp : List Nat} (h : DG frC 2 σ v l fp) : vcells v = [v] ∧ oneCell v = true := by
  rcases h with ⟨_, rfl, _⟩ | ⟨m, rfl, _⟩ <;> exact ⟨rfl, rfl⟩
def FE : Option (Nat × Nat × Nat) → Value → Prop
  | none, v => v = .nilIface
  | some (k, r, a), v => ∃ d z, d ≤ 2 ∧ ErN d (fv r a z) k ∧ v = fv r a z
theorem specDrain {l : List Fr} {e : Option (Nat × Nat × Nat)} {t : ByteArray} (hx : IsF σ x most w .nilIface) (hs : w.size ≤ 9000) (ha : AllF most w l e t) (h : ∀ σ' v er, Kept σ [x] σ' [x] → DL frC 2 v l → FE e er → IsF σ' x most t er → Q (.tuple #[v, er, .bool true]) σ') : CallS E B 25 [.pointer (some ⟨x, 0, none⟩)] σ Q := by
  have hlen := ha.len
  refine call25 (by simp) ?_
  simp only [strip, bodyOf, Tryd.f25, getD_body, keepN, bareOp_mk, lessOp_mk, lapp_cons, lapp_nil, List.map_cons, List.map_nil, array_toList, ↓reduceIte, Nat.reduceEqDiff, Bool.false_eq_true]
  simp (disch := first | assumption | simp) only [↓sbD, sbU, tyB, Nat.reduceMul, Nat.reduceSub, Int.reduceEq, Int.reduceLT, Int.reduceLE, Int.reduceNe, Nat.reduceBneDiff, Nat.reduceBEq, decide_false, gt_iff_lt, Bool.or_self, Bool.false_eq_true, Nat.mul_one, Nat.one_mul, Nat.zero_mul, ↓reduceIte, Nat.reduceEqDiff, Nat.reduceLT, Nat.reduceAdd, Nat.reduceLeDiff, reduceCtorEq, goInt, pairs, isConst, TI.isAgg, splice, boxS, Edp, dpv, Nat.beq_eq, ZV.val, List.any_cons, List.any_nil]
  refine S_loop (fun m f σ' => ∃ (l1 l2 : List Fr) (w' : ByteArray) (v : Value) (fp : List Nat), m = l2.length ∧ l = l1 ++ l2 ∧ f 6 = .int .i64 ((l1.length : Nat) : Int) ∧ f 5 = v ∧ DG frC 2 σ' v l1 fp ∧ x ∉ fp ∧ IsF σ' x most w' .nilIface ∧ AllF most w' l2 e t ∧ w'.size ≤ 9000 ∧ Kept σ [x] σ' (x :: fp)) l.length (Le.refl _) ⟨[], l, w, _, [], rfl, rfl, by simp (disch := first | assumption | simp) only [↓sbD, sbU, tyB, Nat.reduceMul, Nat.reduceSub, Int.reduceEq, Int.reduceLT, Int.reduceLE, Int.reduceNe, Nat.reduceBneDiff, Nat.reduceBEq, decide_false, gt_iff_lt, Bool.or_self, Bool.false_eq_true, Nat.mul_one, Nat.one_mul, Nat.zero_mul, ↓reduceIte, Nat.reduceEqDiff, Nat.reduceLT, Nat.reduceAdd, Nat.reduceLeDiff, reduceCtorEq, goInt, pairs, isConst, TI.isAgg, splice, boxS, Edp, dpv, Nat.beq_eq, ZV.val, List.any_cons, List.any_nil]; rfl, rfl, by simp (disch := first | assumption | simp) only [↓sbD, sbU, tyB, Nat.reduceMul, Nat.reduceSub, Int.reduceEq, Int.reduceLT, Int.reduceLE, Int.reduceNe, Nat.reduceBneDiff, Nat.reduceBEq, decide_false, gt_iff_lt, Bool.or_self, Bool.false_eq_true, Nat.mul_one, Nat.one_mul, Nat.zero_mul, ↓reduceIte, Nat.reduceEqDiff, Nat.reduceLT, Nat.reduceAdd, Nat.reduceLeDiff, reduceCtorEq, goInt, pairs, isConst, TI.isAgg, splice, boxS, Edp, dpv, Nat.beq_eq, ZV.val, List.any_cons, List.any_nil]; exact DG.nil, by simp, hx, ha, hs, Kept.refl _ _⟩ ?_
  rintro m f σ' ⟨l1, l2, w', v, fp, hm, hl, f6, f5, hv, hxf, hx', ha', hs', hk⟩ hf
  have f0 := hf 0 (by decide) (notMem_wr (by kernel_rfl))
  simp (disch := first | assumption | simp) only [↓sbD, sbU, tyB, Nat.reduceMul, Nat.reduceSub, Int.reduceEq, Int.reduceLT, Int.reduceLE, Int.reduceNe, Nat.reduceBneDiff, Nat.reduceBEq, decide_false, gt_iff_lt, Bool.or_self, Bool.false_eq_true, Nat.mul_one, Nat.one_mul, Nat.zero_mul, ↓reduceIte, Nat.reduceEqDiff, Nat.reduceLT, Nat.reduceAdd, Nat.reduceLeDiff, reduceCtorEq, goInt, pairs, isConst, TI.isAgg, splice, boxS, Edp, dpv, Nat.beq_eq, ZV.val, List.any_cons, List.any_nil] at f0
  clear hf
  have hll : l1.length + l2.length = l.length := by rw [hl, List.length_append]
  have hlt : ((l1.length : Nat) : Int) < 5000 := by omega
  have hw := wrap_suc (n := l1.length) (by omega)
  simp (disch := first | assumption | simp) only [↓sbD, sbU, tyB, Nat.reduceMul, Nat.reduceSub, Int.reduceEq, Int.reduceLT, Int.reduceLE, Int.reduceNe, Nat.reduceBneDiff, Nat.reduceBEq, decide_false, gt_iff_lt, Bool.or_self, Bool.false_eq_true, Nat.mul_one, Nat.one_mul, Nat.zero_mul, ↓reduceIte, Nat.reduceEqDiff, Nat.reduceLT, Nat.reduceAdd, Nat.reduceLeDiff, reduceCtorEq, goInt, pairs, isConst, TI.isAgg, splice, boxS, Edp, dpv, Nat.beq_eq, ZV.val, List.any_cons, List.any_nil, f0, f6, hlt]
  refine specNext hx' (by omega) (fun h0 => ?_) (fun h0 hn σ2 k2 i2 => ?_) (fun k r a h0 hn σ2 d z k2 hd he i2 => ?_) fun fi b u h0 hn σ2 k2 i2 => ?_
  · obtain ⟨rfl, rfl, rfl⟩ := ha'.det (.nil h0)
    rw [List.append_nil] at hl
    subst hl
    simp (disch := first | assumption | simp) only [↓sbD, sbU, tyB, Nat.reduceMul, Nat.reduceSub, Int.reduceEq, Int.reduceLT, Int.reduceLE, Int.reduceNe, Nat.reduceBneDiff, Nat.reduceBEq, decide_false, gt_iff_lt, Bool.or_self, Bool.false_eq_true, Nat.mul_one, Nat.one_mul, Nat.zero_mul, ↓reduceIte, Nat.reduceEqDiff, Nat.reduceLT, Nat.reduceAdd, Nat.reduceLeDiff, reduceCtorEq, goInt, pairs, isConst, TI.isAgg, splice, boxS, Edp, dpv, Nat.beq_eq, ZV.val, List.any_cons, List.any_nil, AS_new, zeFr, f5, frEq0, not_bool, emp_eq]
    intro d hd
    exact downS_le (Le.new' (Le.new hd) hd) (h _ _ _ ⟨hk.get, fun _ h => .inl h⟩ hv.dl rfl hx')
  · obtain ⟨rfl, rfl, rfl⟩ := ha'.det (.wait h0 hn)
    rw [List.append_nil] at hl
    subst hl
    simp (disch := first | assumption | simp) only [↓sbD, sbU, tyB, Nat.reduceMul, Nat.reduceSub, Int.reduceEq, Int.reduceLT, Int.reduceLE, Int.reduceNe, Nat.reduceBneDiff, Nat.reduceBEq, decide_false, gt_iff_lt, Bool.or_self, Bool.false_eq_true, Nat.mul_one, Nat.one_mul, Nat.zero_mul, ↓reduceIte, Nat.reduceEqDiff, Nat.reduceLT, Nat.reduceAdd, Nat.reduceLeDiff, reduceCtorEq, goInt, pairs, isConst, TI.isAgg, splice, boxS, Edp, dpv, Nat.beq_eq, ZV.val, List.any_cons, List.any_nil, AS_new, zeFr, f5, frEq0, not_bool, emp_eq]
    intro d hd
    have hv2 := hv.kept k2 (fun b hb hm => hxf (by obtain rfl := List.mem_singleton.1 hm; exact hb))
    exact downS_le (Le.new' (Le.new hd) hd) (h _ _ _ ((⟨hk.get, fun _ h => .inl h⟩ : Kept σ [x] σ' [x]).trans k2) hv2.dl rfl i2)
  · obtain ⟨rfl, rfl, rfl⟩ := ha'.det (.bad h0 hn)
    rw [List.append_nil] at hl
    subst hl
    simp (disch := first | assumption | simp) only [↓sbD, sbU, tyB, Nat.reduceMul, Nat.reduceSub, Int.reduceEq, Int.reduceLT, Int.reduceLE, Int.reduceNe, Nat.reduceBneDiff, Nat.reduceBEq, decide_false, gt_iff_lt, Bool.or_self, Bool.false_eq_true, Nat.mul_one, Nat.one_mul, Nat.zero_mul, ↓reduceIte, Nat.reduceEqDiff, Nat.reduceLT, Nat.reduceAdd, Nat.reduceLeDiff, reduceCtorEq, goInt, pairs, isConst, TI.isAgg, splice, boxS, Edp, dpv, Nat.beq_eq, ZV.val, List.any_cons, List.any_nil, AS_new, zeFr, f5, frEq0, not_bool, emp_eq]
    intro c hc
    have hv2 := hv.kept k2 (fun b hb hm => hxf (by obtain rfl := List.mem_singleton.1 hm; exact hb))
    exact downS_le (Le.new' (Le.new hc) hc) (h _ _ _ ((⟨hk.get, fun _ h => .inl h⟩ : Kept σ [x] σ' [x]).trans k2) hv2.dl ⟨d, z, hd, he, rfl⟩ i2)
  · cases ha' with
    | nil h1 => exact absurd h1 h0
    | wait _ h1 => rw [hn] at h1; cases h1
    | bad _ h1 => rw [hn] at h1; cases h1
    | @got _ b' t' _ f' l3 _ _ h1 hr =>
      rw [hn] at h1
      injection h1 with e1 e2 e3
      subst e1; subst e2; subst e3
      skip
      have hv2 := hv.kept k2 (fun b hb hm => hxf (by obtain rfl := List.mem_singleton.1 hm; exact hb))
      have hgt := nextF_got hn
      simp (disch := first | assumption | simp) only [↓sbD, sbU, tyB, Nat.reduceMul, Nat.reduceSub, Int.reduceEq, Int.reduceLT, Int.reduceLE, Int.reduceNe, Nat.reduceBneDiff, Nat.reduceBEq, decide_false, gt_iff_lt, Bool.or_self, Bool.false_eq_true, Nat.mul_one, Nat.one_mul, Nat.zero_mul, ↓reduceIte, Nat.reduceEqDiff, Nat.reduceLT, Nat.reduceAdd, Nat.reduceLeDiff, reduceCtorEq, goInt, pairs, isConst, TI.isAgg, splice, boxS, Edp, dpv, Nat.beq_eq, ZV.val, List.any_cons, List.any_nil, AS_new, zeFr, f5, frEq0, not_bool, emp_eq]
      intro c hc
      have hcx : c ≠ x := by rintro rfl; rw [i2] at hc; cases hc
      have hcf : c ∉ fp := fun hm => hv2.live c hm hc
      have k3 : Kept σ2 [] _ [] := Kept.tmp (o := .cells [.int .i64 0, .string ⟨#[]⟩] true 0) (o' := .cells [.int .i64 (fi : Int), .string b] true 0) hc
      have hv3 := hv2.kept k3 (fun b hb hm => by cases hm)
      have i3 := k3.at i2 (by simp) (by simp)
      refine app_fr (xs := [((fi : Int), b)]) hv3 (.inr ⟨1, rfl⟩) (by simp only [List.length_cons, List.length_nil]; omega) fun σ4 v4 fp4 k4 g4 => ?_
      have i4 := k4.at i3.1 (by simp) hxf
      simp (disch := first | assumption | simp) only [↓sbD, sbU, tyB, Nat.reduceMul, Nat.reduceSub, Int.reduceEq, Int.reduceLT, Int.reduceLE, Int.reduceNe, Nat.reduceBneDiff, Nat.reduceBEq, decide_false, gt_iff_lt, Bool.or_self, Bool.false_eq_true, Nat.mul_one, Nat.one_mul, Nat.zero_mul, ↓reduceIte, Nat.reduceEqDiff, Nat.reduceLT, Nat.reduceAdd, Nat.reduceLeDiff, reduceCtorEq, goInt, pairs, isConst, TI.isAgg, splice, boxS, Edp, dpv, Nat.beq_eq, ZV.val, List.any_cons, List.any_nil, f6, hw]
      refine ⟨_, l3.length, _, rfl, by rw [hm, List.length_cons]; omega, Le.refl _, l1 ++ [((fi : Int), b)], l3, u, _, fp4, rfl, by rw [hl]; simp, ?_, rfl, ?_, i4.2, i4.1, hr, by omega, ?_⟩
      · simp (disch := first | assumption | simp) only [↓sbD, sbU, tyB, Nat.reduceMul, Nat.reduceSub, Int.reduceEq, Int.reduceLT, Int.reduceLE, Int.reduceNe, Nat.reduceBneDiff, Nat.reduceBEq, decide_false, gt_iff_lt, Bool.or_self, Bool.false_eq_true, Nat.mul_one, Nat.one_mul, Nat.zero_mul, ↓reduceIte, Nat.reduceEqDiff, Nat.reduceLT, Nat.reduceAdd, Nat.reduceLeDiff, reduceCtorEq, goInt, pairs, isConst, TI.isAgg, splice, boxS, Edp, dpv, Nat.beq_eq, ZV.val, List.any_cons, List.any_nil, List.length_append]
      · simp (disch := first | assumption | simp) only [↓sbD, sbU, tyB, Nat.reduceMul, Nat.reduceSub, Int.reduceEq, Int.reduceLT, Int.reduceLE, Int.reduceNe, Nat.reduceBneDiff, Nat.reduceBEq, decide_false, gt_iff_lt, Bool.or_self, Bool.false_eq_true, Nat.mul_one, Nat.one_mul, Nat.zero_mul, ↓reduceIte, Nat.reduceEqDiff, Nat.reduceLT, Nat.reduceAdd, Nat.reduceLeDiff, reduceCtorEq, goInt, pairs, isConst, TI.isAgg, splice, boxS, Edp, dpv, Nat.beq_eq, ZV.val, List.any_cons, List.any_nil]
        exact g4
      · refine hk.trans ((k2.wid (gp := x :: fp) (gp' := x :: fp) ?_ ?_).trans ((k3.wid (gp := x :: fp) (gp' := x :: fp) ?_ ?_).trans (k4.wid (gp := x :: fp) (gp' := x :: fp4) ?_ ?_)))
        all_goals (intro b hb; simp only [List.mem_cons, List.not_mem_nil, or_false] at hb ⊢; try (first | exact hb.elim | exact .inl hb | exact .inr hb | (rcases hb with hb | hb <;> simp [hb])))
end
end Go.Proofs.YtccimdfmddomaaaDoor.AbsA
