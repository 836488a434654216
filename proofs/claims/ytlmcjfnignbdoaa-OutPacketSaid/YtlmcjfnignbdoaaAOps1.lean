/-
  Operations: stores, new variables, fields, elements.
-/
import Derived.Test.YtlmcjfnignbdoaaATypes
namespace AbsYtlmcjfnignbdoaa
set_option linter.unusedVariables false
set_option linter.unusedSimpArgs false
set_option linter.unusedSectionVars false
open Go

theorem RV.cells_size {ι : Emb} {v v' : Value} (h : RV ι v v') : v'.cells.size = (vcells v).length := by
  have := h.cells.length; rw [this]; simp
theorem all_oneCell {ι : Emb} {xs xs' : List Value} (h : RVs ι xs xs') (h1 : xs.all oneCell = true) : ∀ v ∈ xs', v.oneCell' = true := by
  induction xs generalizing xs' with
  | nil => cases h; simp
  | cons v vs ih =>
    cases h with | cons _ v' _ vs' hv hs =>
    simp at h1
    intro u hu
    rcases List.mem_cons.1 hu with rfl | hu
    · exact hv.oneCell h1.1
    · exact ih hs (by simpa using h1.2) u hu

theorem splice_length (cs : List Value) (o : Nat) (xs : List Value) (h : o + xs.length ≤ cs.length) : (splice cs o xs).length = cs.length := by
  simp [splice]; omega
theorem splice_in (cs : List Value) (o : Nat) (xs : List Value) (h : o + xs.length ≤ cs.length) (i : Nat) (hi : i < xs.length) : (splice cs o xs)[o + i]? = xs[i]? := by
  simp only [splice]
  rw [List.append_assoc, List.getElem?_append_right (by simp; omega), List.getElem?_append_left (by simp; omega)]
  congr 1; simp; omega
theorem splice_out (cs : List Value) (o : Nat) (xs : List Value) (h : o + xs.length ≤ cs.length) (i : Nat) (hi : i < o ∨ o + xs.length ≤ i) : (splice cs o xs)[i]? = cs[i]? := by
  simp only [splice]
  rcases hi with hi | hi
  · rw [List.append_assoc, List.getElem?_append_left (by simp; omega), List.getElem?_take_of_lt hi]
  · rw [List.getElem?_append_right (by simp; omega), List.getElem?_drop]; congr 1; simp; omega

theorem CellsAt.splice {ι : Emb} {C : Array Value} {base : Nat} {cs xs xs' : List Value} (h : CellsAt ι C base cs) {o : Nat} (hx : RVs ι xs xs') (hl : o + xs.length ≤ cs.length) (hb : base + cs.length ≤ C.size) :
    CellsAt ι (asplice C (base + o) xs') base (AbsYtlmcjfnignbdoaa.splice cs o xs) := by
  have hlen := hx.length
  intro i v hv
  have hi : i < cs.length := by
    rcases Nat.lt_or_ge i cs.length with h1 | h1
    · exact h1
    · rw [List.getElem?_eq_none (by rw [splice_length _ _ _ hl]; exact h1)] at hv; simp at hv
  by_cases hin : o ≤ i ∧ i < o + xs.length
  · have e := splice_in cs o xs hl (i - o) (by omega)
    rw [show o + (i - o) = i by omega] at e
    rw [e] at hv
    obtain ⟨v', h1, h2⟩ := hx.get _ _ hv
    refine ⟨v', ?_, h2⟩
    have e' := asplice_in C (base + o) xs' (by omega) (i - o) (by omega)
    rw [show base + o + (i - o) = base + i by omega] at e'
    rw [e', h1]
  · rw [splice_out cs o xs hl i (by omega)] at hv
    obtain ⟨v', h1, h2⟩ := h _ _ hv
    exact ⟨v', by rw [asplice_out C (base + o) xs' (by omega) _ (by omega), h1], h2⟩

section
variable {E : Env} {ι : Emb} {H H' : AHeap} {w : World}

theorem astoreAt_parts {b o : Nat} {xs : List Value} (hs : astoreAt H b o xs = some H') :
    ∃ cs sz, H.get b = .cells cs true sz ∧ xs.all oneCell = true ∧ o + xs.length ≤ cs.length ∧ H' = H.set b (.cells (splice cs o xs) true sz) := by
  unfold astoreAt at hs
  split at hs
  · rename_i cs sz hg
    split at hs
    · rename_i hc
      simp at hs hc
      exact ⟨cs, sz, hg, by simpa using hc.1, hc.2, hs.symm⟩
    · simp at hs
  · simp at hs

theorem astoreAt_sim {P : Program} (h : Rel E ι H w) {b o : Nat} {l : Loc} {xs xs' : List Value} (hb : ι b = some l) (hx : RVs ι xs xs') (hs : astoreAt H b o xs = some H') :
    ∃ w', (storeCells ⟨l.blk, l.base + o, none⟩ xs').run P w = .ok () w' ∧ Rel E ι H' w' ∧ Step ι H w ι H' w' := by
  obtain ⟨cs, sz, hg, hone, hlen, rfl⟩ := astoreAt_parts hs
  obtain ⟨C, ty, fz, h1, h2, h3, h4, h5, h6, h7⟩ := h.cells _ _ _ _ _ hb hg
  have hl := hx.length
  refine ⟨_, run_storeCells xs' 0 C w h1 (by omega) (all_oneCell hx hone) (by rw [h2]; exact h6 rfl), ?_⟩
  rw [Nat.add_zero]
  refine h.put hb (by simp [wrt, hg]) (fun _ _ => trivial) ?_ ?_
  · intro cs' wr' sz' he
    simp at he; obtain ⟨rfl, rfl, rfl⟩ := he
    refine ⟨_, ty, fz, rfl, by rw [asplice_size _ _ _ (by omega), h2], h3, by rw [splice_length _ _ _ hlen]; exact h4, h5.splice hx hlen (by omega), h6, h7⟩
  · intro es clk he; simp at he

theorem astore_sim (hE : TyOk E) (h : Rel E ι H w) {t : Nat} {x x' v v' : Value} (hx : RV ι x x') (hv : RV ι v v') (hs : astore E H t x v = some H') :
    ∃ w', (Instr.storeAt t x' v').run E.P w = .ok () w' ∧ Rel E ι H' w' ∧ Step ι H w ι H' w' := by
  unfold astore at hs
  split at hs
  rotate_left
  · simp at hs
  rename_i b o i ht
  cases hx with | ptr _ _ l hb =>
  split at hs
  rotate_left
  · simp at hs
  rename_i hsz
  obtain ⟨w', h1, h2⟩ := astoreAt_sim (P := E.P) h hb hv.cells hs
  refine ⟨w', ?_, h2⟩
  have : v'.cells.size = i.size := by rw [hv.cells_size, hsz]
  simp [Instr.storeAt, Instr.sureAddr, storeVar, run_sizeOf' hE ht, this, h1]

theorem alloc_sim (h : Rel E ι H w) (hfree : ι H.size = none) {cs cs' : List Value} (ty : TypeId) (hc : RVs ι cs cs') :
    ∃ ι', Rel E ι' (H.alloc (.cells cs true 0)) (w.alloc (.cells cs'.toArray ty)) ∧ Step ι H w ι' (H.alloc (.cells cs true 0)) (w.alloc (.cells cs'.toArray ty)) ∧
      RV ι' (.pointer (some ⟨H.size, 0, none⟩)) (.pointer (some ⟨w.heap.size, 0, none⟩)) := by
  have hl := hc.length
  obtain ⟨h1, h2⟩ := h.alloc hfree (cs := cs) (wr := true) (sz := 0) (C := cs'.toArray) (ty := ty) (fz := (0, 0))
    (fun i v hv => by obtain ⟨v', h3, h4⟩ := hc.get i v hv; exact ⟨v', by simpa using h3, h4⟩) (by simp; omega) (fun _ off _ hf => by omega) (fun _ _ => by simp)
  exact ⟨_, h1, h2, .ptr H.size 0 ⟨w.heap.size, 0, 0, cs'.toArray.size⟩ (Emb.with_same _ _ _)⟩

theorem afieldAddr_sim (hE : TyOk E) {s f : Nat} {x x' v : Value} (hx : RV ι x x') (hs : afieldAddr E s x f = some v) (w : World) :
    ∃ v', (Instr.fieldAt s x' f).run E.P w = .ok v' w ∧ RV ι v v' := by
  unfold afieldAddr at hs
  split at hs
  rotate_left
  · simp at hs
  rename_i fs _ _ _ _ b o hts
  cases hx with | ptr _ _ l hb =>
  obtain ⟨inf, d, h1, h2, h3, h4, h5, h6, h7⟩ := ti_parts hE hts
  obtain ⟨F, rfl, rfl⟩ := tk_struct h3
  split at hs
  rotate_left
  · simp at hs
  rename_i off t blank hf
  simp at hf
  obtain ⟨fld, hf1, rfl, rfl, hb2⟩ := hf
  split at hs
  rotate_left
  · simp at hs
  rename_i j htj
  split at hs
  · simp at hs
  rename_i hjs
  simp at hs; subst hs
  refine ⟨.pointer (some ⟨l.blk, l.base + (o + fld.offset), none⟩), ?_, .ptr _ _ l hb⟩
  simp [Instr.fieldAt, run_und hE hts w h2, hf1, Instr.sureAddr, fieldPlace, run_sizeOf' hE htj, hjs, add_addr]
  omega

theorem apart_sim (hE : TyOk E) {t off : Nat} {cs cs' : List Value} {v : Value} (hc : RVs ι cs cs') (hs : AbsYtlmcjfnignbdoaa.apart E t cs off = some v) (w : World) :
    ∃ v', (part t ⟨cs'⟩ off).run E.P w = .ok v' w ∧ RV ι v v' := by
  unfold AbsYtlmcjfnignbdoaa.apart at hs
  split at hs
  · simp at hs
  rename_i i ht
  have hl := hc.length
  simp only [part, Sem.run_bind, run_isAgg' hE ht, Result.andThen_ok]
  split at hs
  · rename_i hagg
    split at hs
    rotate_left
    · simp at hs
    rename_i hlen
    simp at hs; subst hs
    simp only [hagg, if_true, Sem.run_bind, run_sizeOf' hE ht, Result.andThen_ok, Sem.run_pure]
    refine ⟨_, rfl, ?_⟩
    have : (Array.extract ⟨cs'⟩ off (off + i.size) : Array Value) = ⟨(cs'.drop off).take i.size⟩ := by
      apply Array.ext'
      simp [List.extract_eq_take_drop]
    rw [this]
    exact .agg _ _ ((hc.drop off).take i.size)
  · rename_i hagg
    obtain ⟨v', h1, h2⟩ := hc.get _ _ hs
    refine ⟨v', ?_, h2⟩
    have : (⟨cs'⟩ : Array Value)[off]? = some v' := by simpa using h1
    simp [hagg, this]

theorem afield_sim (hE : TyOk E) {s f : Nat} {x x' v : Value} (hx : RV ι x x') (hs : afield E s x f = some v) (w : World) :
    ∃ v', (Instr.field s x' f).run E.P w = .ok v' w ∧ RV ι v v' := by
  unfold afield at hs
  split at hs
  rotate_left
  · simp at hs
  rename_i fs _ _ _ _ cs hts
  cases hx with | agg xs xs' hxs =>
  obtain ⟨inf, d, h1, h2, h3, h4, h5, h6, h7⟩ := ti_parts hE hts
  obtain ⟨F, rfl, rfl⟩ := tk_struct h3
  split at hs
  rotate_left
  · simp at hs
  rename_i off t blank hf
  simp at hf
  obtain ⟨fld, hf1, rfl, rfl, hb2⟩ := hf
  obtain ⟨v', h8, h9⟩ := apart_sim hE hxs hs w
  exact ⟨v', by simp [Instr.field, run_und hE hts w h2, hf1, asAgg, h8], h9⟩

theorem aindexAddr_sim (hE : TyOk E) {t : Nat} {x x' ix ix' v : Value} (hx : RV ι x x') (hi : RV ι ix ix') (hs : aindexAddr E t x ix = some v) (w : World) :
    ∃ v', (Instr.indexAt t x' ix').run E.P w = .ok v' w ∧ RV ι v v' := by
  unfold aindexAddr at hs
  split at hs
  rotate_left
  · simp at hs
  rename_i i k n ht
  cases hi with | int _ _ =>
  obtain ⟨inf, d, h1, h2, h3, h4, h5, h6, h7⟩ := ti_parts hE ht
  split at hs
  · rename_i e b o ex len c hk
    rw [hk] at h3
    obtain rfl := tk_slice h3
    split at hs
    rotate_left
    · simp at hs
    rename_i j htj
    split at hs
    rotate_left
    · simp at hs
    rename_i hn
    simp at hs; subst hs
    have hlen : len ≠ 0 := by omega
    cases hx with
    | sliceU _ _ _ _ c' l hb hnc hcc htt =>
      refine ⟨.pointer (some ⟨l.blk, l.base + (o + n.toNat * j.size), none⟩), ?_, .ptr _ _ l hb⟩
      simp [Instr.indexAt, asIntOf, run_und hE ht w h2, hn, run_sizeOf' hE htj, add_addr]
      omega
    | sliceX _ _ _ _ l hb hnc htt =>
      refine ⟨.pointer (some ⟨l.blk, l.base + (o + n.toNat * j.size), none⟩), ?_, .ptr _ _ l hb⟩
      simp [Instr.indexAt, asIntOf, run_und hE ht w h2, hn, run_sizeOf' hE htj, add_addr]
      omega
    | sliceUZ => omega
    | sliceXZ => omega
  · rename_i len e b o hk
    rw [hk] at h3
    obtain rfl := tk_arr h3
    split at hs
    rotate_left
    · simp at hs
    rename_i j htj
    split at hs
    rotate_left
    · simp at hs
    rename_i hn
    simp at hs; subst hs
    cases hx with | ptr _ _ l hb =>
    refine ⟨.pointer (some ⟨l.blk, l.base + (o + n.toNat * j.size), none⟩), ?_, .ptr _ _ l hb⟩
    simp [Instr.indexAt, asIntOf, run_und hE ht w h2, Instr.sureAddr, hn, run_sizeOf' hE htj, add_addr]
    omega
  · simp at hs

theorem aindex_sim (hE : TyOk E) {t : Nat} {x x' ix ix' v : Value} (hx : RV ι x x') (hi : RV ι ix ix') (hs : aindex E t x ix = some v) (w : World) :
    ∃ v', (Instr.index t x' ix').run E.P w = .ok v' w ∧ RV ι v v' := by
  unfold aindex at hs
  split at hs
  rotate_left
  · simp at hs
  rename_i i k n ht
  cases hi with | int _ _ =>
  obtain ⟨inf, d, h1, h2, h3, h4, h5, h6, h7⟩ := ti_parts hE ht
  split at hs
  · rename_i s hk
    rw [hk] at h3
    obtain rfl := tk_string h3
    cases hx with | string _ =>
    split at hs
    rotate_left
    · simp at hs
    rename_i hn
    cases hb : s[n.toNat]? with
    | none => simp [hb] at hs
    | some b =>
      simp [hb] at hs; subst hs
      exact ⟨_, by simp [Instr.index, asIntOf, run_und hE ht w h2, hn, hb], .int _ _⟩
  · rename_i len e cs hk
    rw [hk] at h3
    obtain rfl := tk_arr h3
    cases hx with | agg xs xs' hxs =>
    split at hs
    rotate_left
    · simp at hs
    rename_i j htj
    split at hs
    rotate_left
    · simp at hs
    rename_i hn
    obtain ⟨v', h8, h9⟩ := apart_sim hE hxs hs w
    exact ⟨v', by simp [Instr.index, asIntOf, run_und hE ht w h2, hn, run_sizeOf' hE htj, h8], h9⟩
  · simp at hs

theorem lfill_sim {place : Nat → Option (Nat × Nat)} {ps : List (Nat × Value)} {ps' : List (Nat × Value)} (hp : ps.length = ps'.length) (hps : ∀ (k : Nat) (p p' : Nat × Value), ps[k]? = some p → ps'[k]? = some p' → p.1 = p'.1 ∧ RV ι p.2 p'.2) :
    ∀ {cs cs' r : List Value}, RVs ι cs cs' → lfill place cs ps = some r → ∃ r', Instr.fill place ⟨cs'⟩ ps' = some ⟨r'⟩ ∧ RVs ι r r' := by
  induction ps generalizing ps' with
  | nil =>
    intro cs cs' r hc hf
    cases ps' with
    | cons _ _ => simp at hp
    | nil => simp [lfill] at hf; subst hf; exact ⟨cs', rfl, hc⟩
  | cons p ps ih =>
    intro cs cs' r hc hf
    cases ps' with
    | nil => simp at hp
    | cons p' ps' =>
      obtain ⟨i, v⟩ := p
      obtain ⟨i', v'⟩ := p'
      obtain ⟨h1, h2⟩ := hps 0 _ _ rfl rfl
      simp at h1 h2; subst h1
      simp only [lfill] at hf
      cases hpl : place i with
      | none => simp [hpl] at hf
      | some q =>
        obtain ⟨off, size⟩ := q
        simp only [hpl] at hf
        split at hf
        rotate_left
        · simp at hf
        rename_i hcond
        simp at hcond
        obtain ⟨hsz, hlen⟩ := hcond
        have hcl := hc.length
        have hvs := h2.cells_size
        have key : v'.cells.zipIdx.foldl (fun (cs : Array Value) (x : Value × Nat) => cs.setIfInBounds (off + x.2) x.1) (⟨cs'⟩ : Array Value) = ⟨AbsYtlmcjfnignbdoaa.splice cs' off v'.cells.toList⟩ := by
          have gen : ∀ (xs : List Value) (k : Nat) (C : Array Value), off + k + xs.length ≤ C.size → (xs.zipIdx k).foldl (fun (cs : Array Value) (x : Value × Nat) => cs.setIfInBounds (off + x.2) x.1) C = asplice C (off + k) xs := by
            intro xs
            induction xs with
            | nil => intro k C _; simp [asplice_nil]
            | cons x xs ihx =>
              intro k C hC
              simp only [List.zipIdx_cons, List.foldl_cons]
              simp at hC
              rw [ihx (k + 1) _ (by simp; omega), show off + (k + 1) = off + k + 1 by omega, asplice_cons _ _ _ _ (by omega)]
          rw [← Array.foldl_toList, Array.toList_zipIdx]
          rw [gen v'.cells.toList 0 ⟨cs'⟩ (by simp; omega)]
          simp [asplice, AbsYtlmcjfnignbdoaa.splice]
        obtain ⟨r', h3, h4⟩ := ih (ps' := ps') (by simpa using hp) (fun k a b ha hb => hps (k + 1) a b (by simpa using ha) (by simpa using hb))
          (cs := AbsYtlmcjfnignbdoaa.splice cs off (vcells v)) (cs' := AbsYtlmcjfnignbdoaa.splice cs' off v'.cells.toList)
          (by
            have hll := h2.cells.length
            simp only [AbsYtlmcjfnignbdoaa.splice]
            rw [← hll]
            exact ((hc.take off).append h2.cells).append (hc.drop _)) hf
        refine ⟨r', ?_, h4⟩
        simp only [Instr.fill, hpl]
        rw [if_neg (by simp; omega)]
        rw [key]
        exact h3
end
end AbsYtlmcjfnignbdoaa
