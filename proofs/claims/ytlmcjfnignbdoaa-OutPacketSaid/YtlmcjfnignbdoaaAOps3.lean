/-
  Operations: structs, slices, maps that are made, cut and read.
-/
import Derived.Test.YtlmcjfnignbdoaaAOps2
import Derived.Laws.Append
import Derived.Laws.Slices
namespace AbsYtlmcjfnignbdoaa
set_option linter.unusedVariables false
set_option linter.unusedSimpArgs false
set_option linter.unusedSectionVars false
open Go

section
variable {E : Env} {ι : Emb} {H H' : AHeap} {w : World}

/-- pairs of a number and a value -/
def RPs (ι : Emb) (ps ps' : List (Nat × Value)) : Prop := ps.length = ps'.length ∧ ∀ (k : Nat) (p p' : Nat × Value), ps[k]? = some p → ps'[k]? = some p' → p.1 = p'.1 ∧ RV ι p.2 p'.2

theorem places_sim (hE : TyOk E) (w : World) : ∀ {F : List Field} {pl : List (Nat × Nat)}, fieldPlaces E (F.map fun f => (f.offset, f.type, f.name == "_")) = some pl →
    (F.mapM fun f => (do pure (f.offset, ← Go.sizeOf f.type) : Sem (Nat × Nat))).run E.P w = .ok pl w
  | [], pl, h => by simp [fieldPlaces] at h; subst h; simp
  | f :: F, pl, h => by
    simp only [List.map_cons, fieldPlaces] at h
    split at h
    · rename_i i r hi hr
      simp at h; subst h
      simp only [List.mapM_cons, Sem.run_bind, run_sizeOf' hE hi, Result.andThen_ok, Sem.run_pure]
      rw [places_sim hE w hr]; rfl
    · simp at h

theorem abuild_sim (hE : TyOk E) {t : Nat} {ps ps' : List (Nat × Value)} {v : Value} (hp : RPs ι ps ps') (hs : abuild E t ps = some v) (w : World) :
    ∃ v', (Instr.build t ps'.toArray).run E.P w = .ok v' w ∧ RV ι v v' := by
  unfold abuild at hs
  split at hs
  rotate_left
  · simp at hs
  rename_i i z ht hz
  obtain ⟨i', zs, ht', hzs, rfl⟩ := azero_of hz
  rw [ht] at ht'; simp at ht'; subst ht'
  obtain ⟨zv, hz1, hz2, hz9⟩ := run_zero hE ht w hzs
  obtain ⟨inf, d, h1, h2, h3, h4, h5, h6, h7⟩ := ti_parts hE ht
  have hzc : zv.cells = ⟨zs.map ZV.val⟩ := by rw [← hz2]
  split at hs
  · rename_i fs hk
    rw [hk] at h3; obtain ⟨F, rfl, rfl⟩ := tk_struct h3
    split at hs
    rotate_left
    · simp at hs
    rename_i pl hpl
    cases hf : lfill (fun k => pl[k]?) (zs.map ZV.val) ps with
    | none => simp [hf] at hs
    | some cs =>
      simp [hf] at hs; subst hs
      obtain ⟨r', hr1, hr2⟩ := lfill_sim hp.1 hp.2 (RVs.zeros (ι := ι) zs) hf
      refine ⟨.agg ⟨r'⟩, ?_, .agg _ _ hr2⟩
      have hpl' := places_sim hE w hpl
      have e : (fun k : Nat => (pl.toArray)[k]?) = fun k => pl[k]? := by funext k; simp
      have hm : (F.mapM fun f => (do pure (f.offset, ← Go.sizeOf f.type) : Sem (Nat × Nat))).run E.P w = .ok pl.toArray w := by
        rw [Array.mapM_eq_mapM_toList, Sem.run_map, hpl']; rfl
      simp only [Instr.build, Sem.run_bind, hz1, Result.andThen_ok, run_und hE ht w h2, hzc, hm, e, hr1, Sem.run_pure]
  · rename_i n e hk
    rw [hk] at h3; obtain rfl := tk_arr h3
    split at hs
    rotate_left
    · simp at hs
    rename_i j hj
    cases hf : lfill (fun k => some (k * j.size, j.size)) (zs.map ZV.val) ps with
    | none => simp [hf] at hs
    | some cs =>
      simp [hf] at hs; subst hs
      obtain ⟨r', hr1, hr2⟩ := lfill_sim hp.1 hp.2 (RVs.zeros (ι := ι) zs) hf
      refine ⟨.agg ⟨r'⟩, ?_, .agg _ _ hr2⟩
      simp [Instr.build, hz1, run_und hE ht w h2, hzc, run_sizeOf' hE hj, hr1]
  · simp at hs

theorem reps_length (z : List Value) (n : Nat) : (reps z n).length = n * z.length := by
  induction n with
  | zero => simp [reps]
  | succ n ih => simp [reps, ih, Nat.add_mul]; omega
theorem reps_get (z : List Value) (n i : Nat) (h : i < n * z.length) : (reps z n)[i]? = z[i % z.length]? := by
  induction n generalizing i with
  | zero => simp at h
  | succ n ih =>
    have hz : 0 < z.length := by
      rcases Nat.eq_zero_or_pos z.length with h0 | h0
      · rw [h0] at h; simp at h
      · exact h0
    simp only [reps]
    by_cases hi : i < z.length
    · rw [List.getElem?_append_left hi, Nat.mod_eq_of_lt hi]
    · rw [List.getElem?_append_right (by omega), ih (i - z.length) (by rw [Nat.add_mul] at h; omega)]
      congr 1
      rw [Nat.mod_eq_sub_mod (by omega : i ≥ z.length)]
theorem RVs.reps {z z' : List Value} (h : RVs ι z z') (n : Nat) : RVs ι (AbsYtlmcjfnignbdoaa.reps z n) (AbsYtlmcjfnignbdoaa.reps z' n) := by
  induction n with
  | zero => exact .nil
  | succ n ih => exact h.append ih
theorem range_reps (zero : Array Value) (n sz : Nat) (hz : zero.size = sz) (h0 : sz ≠ 0) : (Array.range (n * sz)).map (fun k => zero[k % zero.size]!) = ⟨AbsYtlmcjfnignbdoaa.reps zero.toList n⟩ := by
  apply Array.ext_getElem?
  intro i
  by_cases hi : i < n * sz
  · have hlt : i % zero.size < zero.size := Nat.mod_lt _ (by omega)
    have e := reps_get zero.toList n i (by simpa [hz] using hi)
    simp only [Array.length_toList] at e
    have : (⟨AbsYtlmcjfnignbdoaa.reps zero.toList n⟩ : Array Value)[i]? = zero[i % zero.size]? := by simpa using e
    rw [this]
    simp [hi, getElem!_pos, hlt]
  · rw [Array.getElem?_eq_none (by simp; omega), Array.getElem?_eq_none (by simp [reps_length, hz]; omega)]

theorem abuildSlice_sim (hE : TyOk E) (h : Rel E ι H w) (hfree : ι H.size = none) {t len : Nat} {ps ps' : List (Nat × Value)} {v : Value} (hp : RPs ι ps ps') (hs : abuildSlice E H t len ps = some (v, H')) :
    ∃ v' w' ι', (Instr.buildSlice t len ps'.toArray).run E.P w = .ok v' w' ∧ RV ι' v v' ∧ Rel E ι' H' w' ∧ Step ι H w ι' H' w' := by
  unfold abuildSlice at hs
  split at hs
  rotate_left
  · simp at hs
  rename_i e _ _ _ _ ht
  obtain ⟨inf, d, h1, h2, h3, h4, h5, h6, h7⟩ := ti_parts hE ht
  obtain rfl := tk_slice h3
  split at hs
  rotate_left
  · simp at hs
  rename_i j z hj hz
  obtain ⟨j', zs, hj', hzs, rfl⟩ := azero_of hz
  rw [hj] at hj'; simp at hj'; subst hj'
  obtain ⟨zv, hz1, hz2, hz9⟩ := run_zero hE hj w hzs
  have hzc : zv.cells = ⟨zs.map ZV.val⟩ := by rw [← hz2]
  split at hs
  · simp at hs
  rename_i hcond
  simp at hcond
  obtain ⟨⟨hj0, hzl⟩, hmost⟩ := hcond
  cases hf : lfill (fun k => some (k * j.size, j.size)) (AbsYtlmcjfnignbdoaa.reps (zs.map ZV.val) len) ps with
  | none => simp [hf] at hs
  | some cs =>
    simp [hf] at hs
    obtain ⟨rfl, rfl⟩ := hs
    obtain ⟨r', hr1, hr2⟩ := lfill_sim hp.1 hp.2 ((RVs.zeros (ι := ι) zs).reps len) hf
    have hlen : cs.length = len * j.size := by
      have gen : ∀ (ps : List (Nat × Value)) (a b : List Value), lfill (fun k => some (k * j.size, j.size)) a ps = some b → b.length = a.length := by
        intro ps
        induction ps with
        | nil => intro a b h; simp [lfill] at h; rw [h]
        | cons p ps ih =>
          intro a b h
          obtain ⟨i, u⟩ := p
          simp only [lfill] at h
          split at h
          · rename_i hc; simp at hc; rw [ih _ _ h, splice_length _ _ _ (by omega)]
          · simp at h
      rw [gen _ _ _ hf, reps_length]; simp [hzl]
    have hcl := hr2.length
    obtain ⟨hR, hS⟩ := h.alloc hfree (cs := cs) (wr := true) (sz := j.size) (C := ⟨r'⟩) (ty := e) (fz := (0, 0))
      (fun i v hv => by obtain ⟨v', h3, h4⟩ := hr2.get i v hv; exact ⟨v', by simpa using h3, h4⟩) (by simp; omega) (fun _ off _ hf => by omega) (fun _ _ => by simp)
    refine ⟨.slice (some ⟨w.heap.size, 0, none⟩) len len, _, _, ?_, .sliceX H.size 0 len len ⟨w.heap.size, 0, j.size, _⟩ (Emb.with_same _ _ _) (Nat.le_refl _) (.inr (by simp; omega)), hR, hS⟩
    have hm2 : ¬ (len * j.size > 2 ^ 24) := by omega
    have hr := range_reps (⟨zs.map ZV.val⟩ : Array Value) len j.size (by simpa using hzl) hj0
    by_cases h00 : len * j.size = 0
    · have hl0 : len = 0 := by
        rcases Nat.mul_eq_zero.1 h00 with h | h
        · exact h
        · exact absurd h hj0
      subst hl0
      have hr0 : ∀ z : Array Value, (Array.range (0 * j.size)).map (fun k => z[k % z.size]!) = ⟨[]⟩ := by intro z; simp
      simp only [reps] at hr1
      simp only [Instr.buildSlice, Sem.run_bind, run_und hE ht w h2, Result.andThen_ok, run_sizeOf' hE hj, if_neg hm2, if_pos h00, Sem.run_pure, hr0, hr1]
      simp [newRow]
    · simp only [Instr.buildSlice, Sem.run_bind, run_und hE ht w h2, Result.andThen_ok, run_sizeOf' hE hj, if_neg hm2, if_neg h00, hz1, Sem.run_pure, hzc, hr, hr1]
      simp [newRow]

theorem abound_sim {hi hi' : Option Value} {other most r : Nat} (hr : match hi, hi' with | none, none => True | some x, some y => RV ι x y | _, _ => False)
    (hs : abound hi other most = some r) (code : BoundsCode) (P : Program) (w : World) :
    match hi' with | none => r = other | some y => (Instr.sliceBound y most code).run P w = .ok r w := by
  unfold abound at hs
  split at hs
  · cases hi' with
    | none => simpa using hs.symm
    | some _ => simp at hr
  · cases hi' with
    | none => simp at hr
    | some y =>
      simp at hr
      cases hr
      split at hs
      · rename_i hn; simp at hs; subst hs
        exact Go.run_sliceBound w _ _ _ _ hn.1 hn.2
      · simp at hs
  · simp at hs

end
end AbsYtlmcjfnignbdoaa
