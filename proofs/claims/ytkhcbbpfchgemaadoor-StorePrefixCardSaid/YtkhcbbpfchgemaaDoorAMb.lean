/-
  An abstract machine over the model's code, with one soundness theorem (AbsM.call_ok): part AMb.
-/
import Derived.Test.YtkhcbbpfchgemaaDoorAMa
import Derived.Laws.StructEq
import Derived.Laws.Concat
import Derived.Laws.Append
import Derived.Laws.Slices
import Derived.Laws.BytesString
import Derived.IntWalk
import Derived.Laws.IdiomStrings
/-
 Operations: stores,new variables,fields,elements.
-/
namespace AbsYtkhcbbpfchgemaaDoor
set_option linter.unusedVariables false
set_option linter.unusedSimpArgs false
set_option linter.unusedSectionVars false
open Go

theorem RV.cells_size {ι : Emb} {v v' : Value} (h : RV ι v v') : v'.cells.size = (vcells v).length := by
 have := h.cells.length; rw [this]; simp
theorem all_oneCell {ι : Emb} {xs xs' : List Value} (h : RVs ι xs xs') (h1 : xs.all oneCell = true) : ∀ v ∈ xs',v.oneCell' = true := by
 induction xs generalizing xs' with
 | nil => cases h; simp
 | cons v vs ih =>
  cases h with | cons _ v' _ vs' hv hs =>
  simp at h1
  intro u hu
  rcases List.mem_cons.1 hu with rfl | hu
  ·exact hv.oneCell h1.1
  ·exact ih hs (by simpa using h1.2) u hu

theorem splice_length (cs : List Value) (o : Nat) (xs : List Value) (h : o + xs.length ≤ cs.length) : (splice cs o xs).length = cs.length := by
 simp [splice]; omega
theorem splice_in (cs : List Value) (o : Nat) (xs : List Value) (h : o + xs.length ≤ cs.length) (i : Nat) (hi : i < xs.length) : (splice cs o xs)[o + i]? = xs[i]? := by
 simp only [splice]
 rw [List.append_assoc,List.getElem?_append_right (by simp; omega),List.getElem?_append_left (by simp; omega)]
 congr 1; simp; omega
theorem splice_out (cs : List Value) (o : Nat) (xs : List Value) (h : o + xs.length ≤ cs.length) (i : Nat) (hi : i < o ∨ o + xs.length ≤ i) : (splice cs o xs)[i]? = cs[i]? := by
 simp only [splice]
 rcases hi with hi | hi
 ·rw [List.append_assoc,List.getElem?_append_left (by simp; omega),List.getElem?_take_of_lt hi]
 ·rw [List.getElem?_append_right (by simp; omega),List.getElem?_drop]; congr 1; simp; omega

theorem CellsAt.splice {ι : Emb} {C : Array Value} {base : Nat} {cs xs xs' : List Value} (h : CellsAt ι C base cs) {o : Nat} (hx : RVs ι xs xs') (hl : o + xs.length ≤ cs.length) (hb : base + cs.length ≤ C.size) :
  CellsAt ι (asplice C (base + o) xs') base (AbsYtkhcbbpfchgemaaDoor.splice cs o xs) := by
 have hlen := hx.length
 intro i v hv
 have hi : i < cs.length := by
  rcases Nat.lt_or_ge i cs.length with h1 | h1
  ·exact h1
  ·rw [List.getElem?_eq_none (by rw [splice_length _ _ _ hl]; exact h1)] at hv; simp at hv
 by_cases hin : o ≤ i ∧ i < o + xs.length
 ·have e := splice_in cs o xs hl (i - o) (by omega)
  rw [show o + (i - o) = i by omega] at e
  rw [e] at hv
  obtain ⟨v',h1,h2⟩ := hx.get _ _ hv
  refine ⟨v',?_,h2⟩
  have e' := asplice_in C (base + o) xs' (by omega) (i - o) (by omega)
  rw [show base + o + (i - o) = base + i by omega] at e'
  rw [e',h1]
 ·rw [splice_out cs o xs hl i (by omega)] at hv
  obtain ⟨v',h1,h2⟩ := h _ _ hv
  exact ⟨v',by rw [asplice_out C (base + o) xs' (by omega) _ (by omega),h1],h2⟩

section
variable {E : Env} {ι : Emb} {H H' : AHeap} {w : World}

theorem astoreAt_parts {b o : Nat} {xs : List Value} (hs : astoreAt H b o xs = some H') :
  ∃ cs sz,H.get b = .cells cs true sz ∧ xs.all oneCell = true ∧ o + xs.length ≤ cs.length ∧ H' = H.set b (.cells (splice cs o xs) true sz) := by
 unfold astoreAt at hs
 split at hs
 ·rename_i cs sz hg
  split at hs
  ·rename_i hc
   simp at hs hc
   exact ⟨cs,sz,hg,by simpa using hc.1,hc.2,hs.symm⟩
  ·simp at hs
 ·simp at hs

theorem astoreAt_sim {P : Program} (h : Rel E ι H w) {b o : Nat} {l : Loc} {xs xs' : List Value} (hb : ι b = some l) (hx : RVs ι xs xs') (hs : astoreAt H b o xs = some H') :
  ∃ w',(storeCells ⟨l.blk,l.base + o,none⟩ xs').run P w = .ok () w' ∧ Rel E ι H' w' ∧ Step ι H w ι H' w' := by
 obtain ⟨cs,sz,hg,hone,hlen,rfl⟩ := astoreAt_parts hs
 obtain ⟨C,ty,fz,h1,h2,h3,h4,h5,h6,h7⟩ := h.cells _ _ _ _ _ hb hg
 have hl := hx.length
 refine ⟨_,run_storeCells xs' 0 C w h1 (by omega) (all_oneCell hx hone) (by rw [h2]; exact h6 rfl),?_⟩
 rw [Nat.add_zero]
 refine h.put hb (by simp [wrt,hg]) (fun _ _ => trivial) ?_ ?_ ?_
 ·intro cs' wr' sz' he
  simp at he; obtain ⟨rfl,rfl,rfl⟩ := he
  refine ⟨_,ty,fz,rfl,by rw [asplice_size _ _ _ (by omega),h2],h3,by rw [splice_length _ _ _ hlen]; exact h4,h5.splice hx hlen (by omega),h6,h7⟩
 ·intro es clk he; simp at he
 ·intro o' v hi C' ty' fz' v' hC hv
  rw [h1] at hC; injection hC with hC; injection hC with hC _ _; subst hC
  have := h.immw _ _ _ _ _ hb (by simp [wrt,hg]) hi rfl
  exact ⟨_,ty,fz,rfl,by rw [asplice_out _ _ _ (by omega) _ (.inl (by omega))]; exact hv⟩

theorem astore_sim (hE : TyOk E) (h : Rel E ι H w) {t : Nat} {x x' v v' : Value} (hx : RV ι x x') (hv : RV ι v v') (hs : astore E H t x v = some H') :
  ∃ w',(Instr.storeAt t x' v').run E.P w = .ok () w' ∧ Rel E ι H' w' ∧ Step ι H w ι H' w' := by
 unfold astore at hs
 split at hs
 rotate_left
 ·simp at hs
 rename_i b o i ht
 cases hx with | ptr _ _ l hb =>
 split at hs
 rotate_left
 ·simp at hs
 rename_i hsz
 obtain ⟨w',h1,h2⟩ := astoreAt_sim (P := E.P) h hb hv.cells hs
 refine ⟨w',?_,h2⟩
 have : v'.cells.size = i.size := by rw [hv.cells_size,hsz]
 simp [Instr.storeAt,Instr.sureAddr,storeVar,run_sizeOf' hE ht,this,h1]

theorem alloc_sim (h : Rel E ι H w) (hfree : ι H.size = none) {cs cs' : List Value} (ty : TypeId) (hc : RVs ι cs cs') :
  ∃ ι',Rel E ι' (H.alloc (.cells cs true 0)) (w.alloc (.cells cs'.toArray ty)) ∧ Step ι H w ι' (H.alloc (.cells cs true 0)) (w.alloc (.cells cs'.toArray ty)) ∧
   RV ι' (.pointer (some ⟨H.size,0,none⟩)) (.pointer (some ⟨w.heap.size,0,none⟩)) := by
 have hl := hc.length
 obtain ⟨h1,h2⟩ := h.alloc hfree (cs := cs) (wr := true) (sz := 0) (C := cs'.toArray) (ty := ty) (fz := (0,0))
  (fun i v hv => by obtain ⟨v',h3,h4⟩ := hc.get i v hv; exact ⟨v',by simpa using h3,h4⟩) (by simp; omega) (fun _ off _ hf => by omega) (fun _ => by simp)
 exact ⟨_,h1,h2,.ptr H.size 0 ⟨w.heap.size,0,0,cs'.toArray.size⟩ (Emb.with_same _ _ _)⟩

theorem afieldAddr_sim (hE : TyOk E) {s f : Nat} {x x' v : Value} (hx : RV ι x x') (hs : afieldAddr E s x f = some v) (w : World) :
  ∃ v',(Instr.fieldAt s x' f).run E.P w = .ok v' w ∧ RV ι v v' := by
 unfold afieldAddr at hs
 split at hs
 ·rename_i fs _ _ _ _ b o hts
  cases hx with | ptr _ _ l hb =>
  obtain ⟨inf,d,h1,h2,h3,h4,h5,h6,h7⟩ := ti_parts hE hts
  obtain ⟨F,rfl,rfl⟩ := tk_struct h3
  split at hs
  rotate_left
  ·simp at hs
  rename_i off t blank hf
  simp at hf
  obtain ⟨fld,hf1,rfl,rfl,hb2⟩ := hf
  split at hs
  rotate_left
  ·simp at hs
  rename_i j htj
  split at hs
  ·simp at hs
  rename_i hjs
  simp at hs; subst hs
  refine ⟨.pointer (some ⟨l.blk,l.base + (o + fld.offset),none⟩),?_,.ptr _ _ l hb⟩
  simp [Instr.fieldAt,run_und hE hts w h2,hf1,Instr.sureAddr,fieldPlace,run_sizeOf' hE htj,hjs,add_addr]
  omega
 ·rename_i fs _ _ _ _ cs hts
  cases hx with | dptr _ B o hh =>
  obtain ⟨inf,d,h1,h2,h3,h4,h5,h6,h7⟩ := ti_parts hE hts
  obtain ⟨F,rfl,rfl⟩ := tk_struct h3
  split at hs
  rotate_left
  ·simp at hs
  rename_i off t blank hf
  simp at hf
  obtain ⟨fld,hf1,rfl,rfl,hb2⟩ := hf
  split at hs
  rotate_left
  ·simp at hs
  rename_i j htj
  split at hs
  ·simp at hs
  rename_i hjs
  injection hs with hs; subst hs
  refine ⟨.pointer (some ⟨B,o + fld.offset,none⟩),?_,.dptr _ B _ (hh.drop _)⟩
  simp [Instr.fieldAt,run_und hE hts w h2,hf1,Instr.sureAddr,fieldPlace,run_sizeOf' hE htj,hjs,add_addr]
 ·cases hs

theorem apart_sim (hE : TyOk E) {t off : Nat} {cs cs' : List Value} {v : Value} (hc : RVs ι cs cs') (hs : AbsYtkhcbbpfchgemaaDoor.apart E t cs off = some v) (w : World) :
  ∃ v',(part t ⟨cs'⟩ off).run E.P w = .ok v' w ∧ RV ι v v' := by
 unfold AbsYtkhcbbpfchgemaaDoor.apart at hs
 split at hs
 ·simp at hs
 rename_i i ht
 have hl := hc.length
 simp only [part,Sem.run_bind,run_isAgg' hE ht,Result.andThen_ok]
 split at hs
 ·rename_i hagg
  split at hs
  rotate_left
  ·simp at hs
  rename_i hlen
  simp at hs; subst hs
  simp only [hagg,if_true,Sem.run_bind,run_sizeOf' hE ht,Result.andThen_ok,Sem.run_pure]
  refine ⟨_,rfl,?_⟩
  have : (Array.extract ⟨cs'⟩ off (off + i.size) : Array Value) = ⟨(cs'.drop off).take i.size⟩ := by
   apply Array.ext'
   simp [List.extract_eq_take_drop]
  rw [this]
  exact .agg _ _ ((hc.drop off).take i.size)
 ·rename_i hagg
  obtain ⟨v',h1,h2⟩ := hc.get _ _ hs
  refine ⟨v',?_,h2⟩
  have : (⟨cs'⟩ : Array Value)[off]? = some v' := by simpa using h1
  simp [hagg,this]

theorem afield_sim (hE : TyOk E) {s f : Nat} {x x' v : Value} (hx : RV ι x x') (hs : afield E s x f = some v) (w : World) :
  ∃ v',(Instr.field s x' f).run E.P w = .ok v' w ∧ RV ι v v' := by
 unfold afield at hs
 split at hs
 rotate_left
 ·simp at hs
 rename_i fs _ _ _ _ cs hts
 cases hx with | agg xs xs' hxs =>
 obtain ⟨inf,d,h1,h2,h3,h4,h5,h6,h7⟩ := ti_parts hE hts
 obtain ⟨F,rfl,rfl⟩ := tk_struct h3
 split at hs
 rotate_left
 ·simp at hs
 rename_i off t blank hf
 simp at hf
 obtain ⟨fld,hf1,rfl,rfl,hb2⟩ := hf
 obtain ⟨v',h8,h9⟩ := apart_sim hE hxs hs w
 exact ⟨v',by simp [Instr.field,run_und hE hts w h2,hf1,asAgg,h8],h9⟩

theorem aindexAddr_sim (hE : TyOk E) {t : Nat} {x x' ix ix' v : Value} (hx : RV ι x x') (hi : RV ι ix ix') (hs : aindexAddr E t x ix = some v) (w : World) :
  ∃ v',(Instr.indexAt t x' ix').run E.P w = .ok v' w ∧ RV ι v v' := by
 unfold aindexAddr at hs
 split at hs
 rotate_left
 ·simp at hs
 rename_i i k n ht
 cases hi with | int _ _ =>
 obtain ⟨inf,d,h1,h2,h3,h4,h5,h6,h7⟩ := ti_parts hE ht
 split at hs
 ·rename_i e b o ex len c hk
  rw [hk] at h3
  obtain rfl := tk_slice h3
  split at hs
  rotate_left
  ·simp at hs
  rename_i j htj
  split at hs
  rotate_left
  ·simp at hs
  rename_i hn
  simp at hs; subst hs
  have hlen : len ≠ 0 := by omega
  cases hx with
  | sliceU _ _ _ _ c' l hb hnc hcc htt =>
   refine ⟨.pointer (some ⟨l.blk,l.base + (o + n.toNat * j.size),none⟩),?_,.ptr _ _ l hb⟩
   simp [Instr.indexAt,asIntOf,run_und hE ht w h2,hn,run_sizeOf' hE htj,add_addr]
   omega
  | sliceX _ _ _ _ l hb hnc htt =>
   refine ⟨.pointer (some ⟨l.blk,l.base + (o + n.toNat * j.size),none⟩),?_,.ptr _ _ l hb⟩
   simp [Instr.indexAt,asIntOf,run_und hE ht w h2,hn,run_sizeOf' hE htj,add_addr]
   omega
  | sliceUZ => omega
  | sliceXZ => omega
 ·rename_i len e b o hk
  rw [hk] at h3
  obtain rfl := tk_arr h3
  split at hs
  rotate_left
  ·simp at hs
  rename_i j htj
  split at hs
  rotate_left
  ·simp at hs
  rename_i hn
  simp at hs; subst hs
  cases hx with | ptr _ _ l hb =>
  refine ⟨.pointer (some ⟨l.blk,l.base + (o + n.toNat * j.size),none⟩),?_,.ptr _ _ l hb⟩
  simp [Instr.indexAt,asIntOf,run_und hE ht w h2,Instr.sureAddr,hn,run_sizeOf' hE htj,add_addr]
  omega
 ·rename_i e xs md sz len hk
  rw [hk] at h3
  obtain rfl := tk_slice h3
  split at hs
  rotate_left
  ·cases hs
  rename_i j htj
  split at hs
  rotate_left
  ·cases hs
  rename_i hn
  obtain ⟨rfl,hn⟩ := hn
  injection hs with hs; subst hs
  cases hx with
  | dsl _ _ _ _ B o c' hh hl hc g1 g2 =>
   refine ⟨.pointer (some ⟨B,o + n.toNat * j.size,none⟩),?_,.dptr _ B _ (hh.drop _)⟩
   simp [Instr.indexAt,asIntOf,run_und hE ht w h2,hn,run_sizeOf' hE htj,add_addr]
  | dslZ => omega
 ·rename_i len e cs hk
  rw [hk] at h3
  obtain rfl := tk_arr h3
  split at hs
  rotate_left
  ·cases hs
  rename_i j htj
  split at hs
  rotate_left
  ·cases hs
  rename_i hn
  injection hs with hs; subst hs
  cases hx with | dptr _ B o hh =>
  refine ⟨.pointer (some ⟨B,o + n.toNat * j.size,none⟩),?_,.dptr _ B _ (hh.drop _)⟩
  simp [Instr.indexAt,asIntOf,run_und hE ht w h2,Instr.sureAddr,hn,run_sizeOf' hE htj,add_addr]
 ·cases hs

theorem aindex_sim (hE : TyOk E) {t : Nat} {x x' ix ix' v : Value} (hx : RV ι x x') (hi : RV ι ix ix') (hs : aindex E t x ix = some v) (w : World) :
  ∃ v',(Instr.index t x' ix').run E.P w = .ok v' w ∧ RV ι v v' := by
 unfold aindex at hs
 split at hs
 rotate_left
 ·simp at hs
 rename_i i k n ht
 cases hi with | int _ _ =>
 obtain ⟨inf,d,h1,h2,h3,h4,h5,h6,h7⟩ := ti_parts hE ht
 split at hs
 ·rename_i s hk
  rw [hk] at h3
  obtain rfl := tk_string h3
  cases hx with | string _ =>
  split at hs
  rotate_left
  ·simp at hs
  rename_i hn
  cases hb : s[n.toNat]? with
  | none => simp [hb] at hs
  | some b =>
   simp [hb] at hs; subst hs
   exact ⟨_,by simp [Instr.index,asIntOf,run_und hE ht w h2,hn,hb],.int _ _⟩
 ·rename_i len e cs hk
  rw [hk] at h3
  obtain rfl := tk_arr h3
  cases hx with | agg xs xs' hxs =>
  split at hs
  rotate_left
  ·simp at hs
  rename_i j htj
  split at hs
  rotate_left
  ·simp at hs
  rename_i hn
  obtain ⟨v',h8,h9⟩ := apart_sim hE hxs hs w
  exact ⟨v',by simp [Instr.index,asIntOf,run_und hE ht w h2,hn,run_sizeOf' hE htj,h8],h9⟩
 ·simp at hs

theorem lfill_sim {place : Nat → Option (Nat × Nat)} {ps : List (Nat × Value)} {ps' : List (Nat × Value)} (hp : ps.length = ps'.length) (hps : ∀ (k : Nat) (p p' : Nat × Value),ps[k]? = some p → ps'[k]? = some p' → p.1 = p'.1 ∧ RV ι p.2 p'.2) :
  ∀ {cs cs' r : List Value},RVs ι cs cs' → lfill place cs ps = some r → ∃ r',Instr.fill place ⟨cs'⟩ ps' = some ⟨r'⟩ ∧ RVs ι r r' := by
 induction ps generalizing ps' with
 | nil =>
  intro cs cs' r hc hf
  cases ps' with
  | cons _ _ => simp at hp
  | nil => simp [lfill] at hf; subst hf; exact ⟨cs',rfl,hc⟩
 | cons p ps ih =>
  intro cs cs' r hc hf
  cases ps' with
  | nil => simp at hp
  | cons p' ps' =>
   obtain ⟨i,v⟩ := p
   obtain ⟨i',v'⟩ := p'
   obtain ⟨h1,h2⟩ := hps 0 _ _ rfl rfl
   simp at h1 h2; subst h1
   simp only [lfill] at hf
   cases hpl : place i with
   | none => simp [hpl] at hf
   | some q =>
    obtain ⟨off,size⟩ := q
    simp only [hpl] at hf
    split at hf
    rotate_left
    ·simp at hf
    rename_i hcond
    simp at hcond
    obtain ⟨hsz,hlen⟩ := hcond
    have hcl := hc.length
    have hvs := h2.cells_size
    have key : v'.cells.zipIdx.foldl (fun (cs : Array Value) (x : Value × Nat) => cs.setIfInBounds (off + x.2) x.1) (⟨cs'⟩ : Array Value) = ⟨AbsYtkhcbbpfchgemaaDoor.splice cs' off v'.cells.toList⟩ := by
     have gen : ∀ (xs : List Value) (k : Nat) (C : Array Value),off + k + xs.length ≤ C.size → (xs.zipIdx k).foldl (fun (cs : Array Value) (x : Value × Nat) => cs.setIfInBounds (off + x.2) x.1) C = asplice C (off + k) xs := by
      intro xs
      induction xs with
      | nil => intro k C _; simp [asplice_nil]
      | cons x xs ihx =>
       intro k C hC
       simp only [List.zipIdx_cons,List.foldl_cons]
       simp at hC
       rw [ihx (k + 1) _ (by simp; omega),show off + (k + 1) = off + k + 1 by omega,asplice_cons _ _ _ _ (by omega)]
     rw [← Array.foldl_toList,Array.toList_zipIdx]
     rw [gen v'.cells.toList 0 ⟨cs'⟩ (by simp; omega)]
     simp [asplice,AbsYtkhcbbpfchgemaaDoor.splice]
    obtain ⟨r',h3,h4⟩ := ih (ps' := ps') (by simpa using hp) (fun k a b ha hb => hps (k + 1) a b (by simpa using ha) (by simpa using hb))
     (cs := AbsYtkhcbbpfchgemaaDoor.splice cs off (vcells v)) (cs' := AbsYtkhcbbpfchgemaaDoor.splice cs' off v'.cells.toList)
     (by
       have hll := h2.cells.length
       simp only [AbsYtkhcbbpfchgemaaDoor.splice]
       rw [← hll]
       exact ((hc.take off).append h2.cells).append (hc.drop _)) hf
    refine ⟨r',?_,h4⟩
    simp only [Instr.fill,hpl]
    rw [if_neg (by simp; omega)]
    rw [key]
    exact h3
end
end AbsYtkhcbbpfchgemaaDoor

/-
 Operations: equality,arithmetic,building.
-/
namespace AbsYtkhcbbpfchgemaaDoor
set_option linter.unusedVariables false
set_option linter.unusedSimpArgs false
set_option linter.unusedSectionVars false
open Go

theorem run_und' {P : Program} {t : Nat} {d : TypeDesc} (w : World) (hd : P.underlying t = some d) : (underlying t).run P w = .ok d w := by simp [underlying,hd]
section
variable {P : Program} {t : Nat} (d : Nat) (w : World)
theorem eqI_bool (h : P.underlying t = some .bool) (a b : Bool) : (Op.equalIn (d + 1) t (.bool a) (.bool b)).run P w = .ok (a == b) w := by
 simp only [Op.equalIn,Sem.run_bind,run_und' w h,Result.andThen_ok,Sem.run_pure]
theorem eqI_int {k0 : IntKind} (h : P.underlying t = some (.int k0)) (k : IntKind) (a b : Int) : (Op.equalIn (d + 1) t (.int k a) (.int k b)).run P w = .ok (a == b) w := by
 simp only [Op.equalIn,Sem.run_bind,run_und' w h,Result.andThen_ok,if_true,Sem.run_pure]
theorem eqI_string (h : P.underlying t = some .string) (a b : ByteArray) : (Op.equalIn (d + 1) t (.string a) (.string b)).run P w = .ok (a == b) w := by
 simp only [Op.equalIn,Sem.run_bind,run_und' w h,Result.andThen_ok,Sem.run_pure]
theorem eqI_ptr_l {e : Nat} (h : P.underlying t = some (.pointer e)) (b : Option Addr) : (Op.equalIn (d + 1) t (.pointer none) (.pointer b)).run P w = .ok b.isNone w := by
 simp only [Op.equalIn,Sem.run_bind,run_und' w h,Result.andThen_ok,Sem.run_pure]
theorem eqI_ptr_r {e : Nat} (h : P.underlying t = some (.pointer e)) (a : Addr) : (Op.equalIn (d + 1) t (.pointer (some a)) (.pointer none)).run P w = .ok false w := by
 simp only [Op.equalIn,Sem.run_bind,run_und' w h,Result.andThen_ok,Sem.run_pure]
theorem eqI_ptr {e n : Nat} (h : P.underlying t = some (.pointer e)) (hs : (Go.sizeOf e).run P w = .ok n w) (hn : n ≠ 0) (a b : Addr) :
  (Op.equalIn (d + 1) t (.pointer (some a)) (.pointer (some b))).run P w = (sameAddr a b).run P w := by
 simp only [Op.equalIn,Sem.run_bind,run_und' w h,Result.andThen_ok,hs,ne_eq,hn,not_false_eq_true,if_true]
theorem eqI_if_nn {ms : Array (String × TypeId)} (h : P.underlying t = some (.interface ms)) : (Op.equalIn (d + 1) t .nilIface .nilIface).run P w = .ok true w := by
 simp only [Op.equalIn,Sem.run_bind,run_und' w h,Result.andThen_ok,Sem.run_pure]
theorem eqI_if_ns {ms : Array (String × TypeId)} (h : P.underlying t = some (.interface ms)) (u : TypeId) (v : Value) : (Op.equalIn (d + 1) t .nilIface (.iface u v)).run P w = .ok false w := by
 simp only [Op.equalIn,Sem.run_bind,run_und' w h,Result.andThen_ok,Sem.run_pure]
theorem eqI_if_sn {ms : Array (String × TypeId)} (h : P.underlying t = some (.interface ms)) (u : TypeId) (v : Value) : (Op.equalIn (d + 1) t (.iface u v) .nilIface).run P w = .ok false w := by
 simp only [Op.equalIn,Sem.run_bind,run_und' w h,Result.andThen_ok,Sem.run_pure]
theorem eqI_sl_l {e : Nat} (h : P.underlying t = some (.slice e)) (n c m k : Nat) (b : Option Addr) : (Op.equalIn (d + 1) t (.slice none n c) (.slice b m k)).run P w = .ok b.isNone w := by
 simp only [Op.equalIn,Sem.run_bind,run_und' w h,Result.andThen_ok,Sem.run_pure]
theorem eqI_sl_r {e : Nat} (h : P.underlying t = some (.slice e)) (n c m k : Nat) (a : Addr) : (Op.equalIn (d + 1) t (.slice (some a) n c) (.slice none m k)).run P w = .ok false w := by
 simp only [Op.equalIn,Sem.run_bind,run_und' w h,Result.andThen_ok,Sem.run_pure]
theorem eqI_map_l {k e : Nat} (h : P.underlying t = some (.map k e)) (b : Option Nat) : (Op.equalIn (d + 1) t (.map none) (.map b)).run P w = .ok b.isNone w := by
 simp only [Op.equalIn,Sem.run_bind,run_und' w h,Result.andThen_ok,Sem.run_pure]
theorem eqI_map_r {k e : Nat} (h : P.underlying t = some (.map k e)) (a : Nat) : (Op.equalIn (d + 1) t (.map (some a)) (.map none)).run P w = .ok false w := by
 simp only [Op.equalIn,Sem.run_bind,run_und' w h,Result.andThen_ok,Sem.run_pure]
theorem eqI_fn_nn {a b : Array TypeId} {c : Bool} (h : P.underlying t = some (.func a b c)) : (Op.equalIn (d + 1) t .nilFunc .nilFunc).run P w = .ok true w := by
 simp only [Op.equalIn,Sem.run_bind,run_und' w h,Result.andThen_ok,Sem.run_pure]
theorem eqI_fn_ns {a b : Array TypeId} {c : Bool} (h : P.underlying t = some (.func a b c)) (f : Fn) (x y : Array Value) : (Op.equalIn (d + 1) t .nilFunc (.func f x y)).run P w = .ok false w := by
 simp only [Op.equalIn,Sem.run_bind,run_und' w h,Result.andThen_ok,Sem.run_pure]
theorem eqI_fn_sn {a b : Array TypeId} {c : Bool} (h : P.underlying t = some (.func a b c)) (f : Fn) (x y : Array Value) : (Op.equalIn (d + 1) t (.func f x y) .nilFunc).run P w = .ok false w := by
 simp only [Op.equalIn,Sem.run_bind,run_und' w h,Result.andThen_ok,Sem.run_pure]
end

section
variable {E : Env} {ι : Emb} {H : AHeap} {w : World}

theorem eqf_step {P : Program} {d : Nat} {xs ys : Array Value} {f : Field} {fs : List Field} {a b : Value} {r s : Bool} (hn : (f.name == "_") = false)
  (ha : (part f.type xs f.offset).run P w = .ok a w) (hb : (part f.type ys f.offset).run P w = .ok b w) (he : (Op.equalIn d f.type a b).run P w = .ok r w)
  (hr : r = true → (Op.eqFields d xs ys fs).run P w = .ok s w) (hs : r = false → s = false) : (Op.eqFields d xs ys (f :: fs)).run P w = .ok s w := by
 have hn' : f.name ≠ "_" := by simpa using hn
 rw [Op.eqFields]
 simp only [if_pos hn',Sem.run_bind,ha,hb,he,Result.andThen_ok]
 cases r
 ·simp [hs rfl]
 ·simpa using hr rfl

theorem sameAddr_ne {P : Program} {a b : Addr} {C D : Array Value} {t u : TypeId} {f g : Nat × Nat} (ha : w.heap[a.block]? = some (.cells C t f)) (hb : w.heap[b.block]? = some (.cells D u g))
  (hne : a.block ≠ b.block) (hfa : f.2 ≤ f.1) (hfb : g.2 ≤ g.1) : (sameAddr a b).run P w = .ok false w := by
 have fa : ∀ x : Addr,x.block = a.block → w.frozen? x = false := fun x hx => by
  simp only [World.frozen?,hx,ha,Bool.and_eq_false_iff,decide_eq_false_iff_not]; omega
 have fb : ∀ x : Addr,x.block = b.block → w.frozen? x = false := fun x hx => by
  simp only [World.frozen?,hx,hb,Bool.and_eq_false_iff,decide_eq_false_iff_not]; omega
 have hsa : w.shape? a.block = some (t,C.size) := by simp [World.shape?,ha]
 have hsb : w.shape? b.block = some (u,D.size) := by simp [World.shape?,hb]
 have f1 : w.frozen? a = false := fa a rfl
 have f2 : w.frozen? { block := a.block,off := C.size } = false := fa _ rfl
 have f3 : w.frozen? { block := b.block,off := D.size } = false := fb _ rfl
 have f4 : w.frozen? b = false := fb b rfl
 have e1 : (a.block == b.block) = false := by simpa using hne
 simp [sameAddr,e1,f1,f2,f3,f4,noView,viewAt,hsa,hsb,mayBeOne,stringish]

mutual
theorem aeq_sim (hE : TyOk E) {H : AHeap} (h : Rel E ι H w) : ∀ (d D t : Nat) (x x' y y' : Value) (r : Bool),d ≤ D → RV ι x x' → RV ι y y' → aeq E H d t x y = some r →
  (Op.equalIn D t x' y').run E.P w = .ok r w
 | 0,D,t,x,x',y,y',r,_,_,_,hq => by simp [aeq] at hq
 | d + 1,D,t,x,x',y,y',r,hD,hx,hy,hq => by
  obtain ⟨D,rfl⟩ : ∃ m,D = m + 1 := ⟨D - 1,by omega⟩
  rw [aeq] at hq
  split at hq
  ·simp at hq
  rename_i i ht
  obtain ⟨inf,dd,h1,h2,h3,h4,h5,h6,h7⟩ := ti_parts hE ht
  split at hq
  ·rename_i hk; rw [hk] at h3; obtain rfl := tk_bool h3
   cases hx; cases hy; injection hq with hq; subst hq
   exact eqI_bool D w h2 _ _
  ·rename_i hk; rw [hk] at h3; obtain rfl := tk_int h3
   cases hx; cases hy
   split at hq
   ·rename_i hkk; injection hq with hq; subst hq; subst hkk
    exact eqI_int D w h2 _ _ _
   ·cases hq
  ·rename_i hk; rw [hk] at h3; obtain rfl := tk_string h3
   cases hx; cases hy; injection hq with hq; subst hq
   exact eqI_string D w h2 _ _
  ·rename_i hk; rw [hk] at h3; obtain rfl := tk_ptr h3
   injection hq with hq; subst hq
   cases hx
   cases hy <;> exact eqI_ptr_l D w h2 _
  ·rename_i hk; rw [hk] at h3; obtain rfl := tk_ptr h3
   injection hq with hq; subst hq
   cases hx; cases hy; exact eqI_ptr_r D w h2 _
  ·rename_i e a o b p hk
   rw [hk] at h3; obtain rfl := tk_ptr h3
   cases hx with | ptr _ _ l hb =>
   cases hy with | ptr _ _ l' hb' =>
   split at hq
   ·cases hq
   rename_i j hte
   split at hq
   ·cases hq
   rename_i hjs
   rw [eqI_ptr D w h2 (run_sizeOf' hE hte w) hjs]
   split at hq
   ·rename_i hab
    subst hab
    rw [hb] at hb'; injection hb' with hb'; subst hb'
    injection hq with hq; subst hq
    have e1 : ((⟨l.blk,l.base + o,none⟩ : Addr) == ⟨l.blk,l.base + p,none⟩) = (o == p) := by
     rw [Bool.eq_iff_iff,beq_iff_eq,beq_iff_eq]
     constructor
     ·intro e; injection e with _ e _; omega
     ·intro e; rw [e]
    simp [sameAddr,e1]
   ·rename_i hab
    split at hq
    rotate_left
    ·cases hq
    rename_i ca cb hga hgb
    injection hq with hq; subst hq
    obtain ⟨C,ty,fz,a1,a2,a3,a4,a5,a6,a7⟩ := h.cells _ _ _ _ _ hb hga
    obtain ⟨C',ty',fz',b1,b2,b3,b4,b5,b6,b7⟩ := h.cells _ _ _ _ _ hb' hgb
    have hne := h.inj _ _ _ _ hb hb' hab (by simp [wrt,hga]) (by simp [live,hgb])
    exact sameAddr_ne a1 b1 hne (by rw [a7 rfl]; exact Nat.le_refl 0) (by rw [b7 rfl]; exact Nat.le_refl 0)
  ·rename_i hk; rw [hk] at h3; obtain ⟨ms,rfl,hms⟩ := tk_iface h3
   cases hx; cases hy; injection hq with hq; subst hq; exact eqI_if_nn D w h2
  ·rename_i hk; rw [hk] at h3; obtain ⟨ms,rfl,hms⟩ := tk_iface h3
   cases hx; cases hy; injection hq with hq; subst hq; exact eqI_if_ns D w h2 _ _
  ·rename_i hk; rw [hk] at h3; obtain ⟨ms,rfl,hms⟩ := tk_iface h3
   cases hx; cases hy; injection hq with hq; subst hq; exact eqI_if_sn D w h2 _ _
  ·rename_i fs xs ys hk; rw [hk] at h3; obtain ⟨F,rfl,rfl⟩ := tk_struct h3
   cases hx with | agg xs xs' hxs =>
   cases hy with | agg ys ys' hys =>
   split at hq
   rotate_left
   ·cases hq
   rename_i heq
   obtain ⟨h8,h9⟩ := h7 heq
   have hf : E.P.fieldsOf t = F := by simp [Program.fieldsOf,h2]
   rw [run_equalIn_struct (P := E.P) w D t ⟨xs'⟩ ⟨ys'⟩ (by rw [hf]; exact h2) h8,hf]
   exact aeqs_sim hE h.empty d D F.toList _ _ _ _ r (by omega) hxs hys hq
  ·rename_i hk; rw [hk] at h3; obtain rfl := tk_slice h3
   injection hq with hq; subst hq
   cases hx
   cases hy <;> exact eqI_sl_l D w h2 _ _ _ _ _
  ·rename_i hk; rw [hk] at h3; obtain rfl := tk_slice h3
   injection hq with hq; subst hq
   cases hy
   cases hx <;> exact eqI_sl_r D w h2 _ _ _ _ _
  ·rename_i hk; rw [hk] at h3; obtain rfl := tk_map h3
   injection hq with hq; subst hq
   cases hx
   cases hy <;> exact eqI_map_l D w h2 _
  ·rename_i hk; rw [hk] at h3; obtain rfl := tk_map h3
   injection hq with hq; subst hq
   cases hy
   cases hx; exact eqI_map_r D w h2 _
  ·rename_i hk; rw [hk] at h3; obtain ⟨_,_,_,rfl⟩ := tk_func h3
   cases hx; cases hy; injection hq with hq; subst hq; exact eqI_fn_nn D w h2
  ·rename_i hk; rw [hk] at h3; obtain ⟨_,_,_,rfl⟩ := tk_func h3
   cases hx; cases hy; injection hq with hq; subst hq; exact eqI_fn_ns D w h2 _ _ _
  ·rename_i hk; rw [hk] at h3; obtain ⟨_,_,_,rfl⟩ := tk_func h3
   cases hx; cases hy; injection hq with hq; subst hq; exact eqI_fn_sn D w h2 _ _ _
  ·rename_i hk; rw [hk] at h3; obtain rfl := tk_ptr h3
   injection hq with hq; subst hq
   cases hx; cases hy; exact eqI_ptr_r D w h2 _
  ·rename_i hk; rw [hk] at h3; obtain rfl := tk_ptr h3
   injection hq with hq; subst hq
   cases hx; cases hy; exact eqI_ptr_l D w h2 _
  ·rename_i hk; rw [hk] at h3; obtain rfl := tk_slice h3
   injection hq with hq; subst hq
   cases hy
   cases hx <;> exact eqI_sl_r D w h2 _ _ _ _ _
  ·rename_i hk; rw [hk] at h3; obtain rfl := tk_slice h3
   injection hq with hq; subst hq
   cases hx
   cases hy <;> exact eqI_sl_l D w h2 _ _ _ _ _
  ·cases hq
theorem aeqs_sim (hE : TyOk E) {H : AHeap} (h : Rel E ι H w) : ∀ (d D : Nat) (F : List Field) (xs xs' ys ys' : List Value) (r : Bool),d ≤ D → RVs ι xs xs' → RVs ι ys ys' →
  aeqs E H d (F.map fun f => (f.offset, f.type, f.name == "_")) xs ys = some r → (Op.eqFields D ⟨xs'⟩ ⟨ys'⟩ F).run E.P w = .ok r w
 | d,D,[],xs,xs',ys,ys',r,_,_,_,hq => by
  simp only [List.map_nil] at hq
  rw [aeqs] at hq
  simp at hq; subst hq; simp [Op.eqFields]
 | 0,D,f :: F,xs,xs',ys,ys',r,_,_,_,hq => by simp [aeqs] at hq
 | d + 1,D,f :: F,xs,xs',ys,ys',r,hD,hx,hy,hq => by
  simp only [List.map_cons] at hq
  rw [aeqs] at hq
  split at hq
  ·rename_i hbl
   have hn' : ¬ (f.name ≠ "_") := by simpa using hbl
   rw [Op.eqFields,if_neg hn']
   exact aeqs_sim hE h d D F _ _ _ _ r (by omega) hx hy hq
  ·rename_i hbl
   split at hq
   rotate_left
   ·simp at hq
   rename_i a b ha hb
   obtain ⟨a',ha1,ha2⟩ := apart_sim hE hx ha w
   obtain ⟨b',hb1,hb2⟩ := apart_sim hE hy hb w
   split at hq
   ·rename_i he
    exact eqf_step (by simpa using hbl) ha1 hb1 (aeq_sim hE h d D _ _ _ _ _ _ (by omega) ha2 hb2 he) (fun _ => aeqs_sim hE h d D F _ _ _ _ r (by omega) hx hy hq) (fun e => by simp at e)
   ·rename_i he
    simp at hq; subst hq
    exact eqf_step (by simpa using hbl) ha1 hb1 (aeq_sim hE h d D _ _ _ _ _ _ (by omega) ha2 hb2 he) (fun e => by simp at e) (fun _ => rfl)
   ·simp at hq
end
end
end AbsYtkhcbbpfchgemaaDoor

/-
 Operations: structs,slices,maps that are made,cut and read.
-/
namespace AbsYtkhcbbpfchgemaaDoor
set_option linter.unusedVariables false
set_option linter.unusedSimpArgs false
set_option linter.unusedSectionVars false
open Go

section
variable {E : Env} {ι : Emb} {H H' : AHeap} {w : World}

def RPs (ι : Emb) (ps ps' : List (Nat × Value)) : Prop := ps.length = ps'.length ∧ ∀ (k : Nat) (p p' : Nat × Value),ps[k]? = some p → ps'[k]? = some p' → p.1 = p'.1 ∧ RV ι p.2 p'.2

theorem places_sim (hE : TyOk E) (w : World) : ∀ {F : List Field} {pl : List (Nat × Nat)}, fieldPlaces E (F.map fun f => (f.offset, f.type, f.name == "_")) = some pl →
  (F.mapM fun f => (do pure (f.offset,← Go.sizeOf f.type) : Sem (Nat × Nat))).run E.P w = .ok pl w
 | [],pl,h => by simp [fieldPlaces] at h; subst h; simp
 | f :: F,pl,h => by
  simp only [List.map_cons,fieldPlaces] at h
  split at h
  ·rename_i i r hi hr
   simp at h; subst h
   simp only [List.mapM_cons,Sem.run_bind,run_sizeOf' hE hi,Result.andThen_ok,Sem.run_pure]
   rw [places_sim hE w hr]; rfl
  ·simp at h

theorem abuild_sim (hE : TyOk E) {t : Nat} {ps ps' : List (Nat × Value)} {v : Value} (hp : RPs ι ps ps') (hs : abuild E t ps = some v) (w : World) :
  ∃ v',(Instr.build t ps'.toArray).run E.P w = .ok v' w ∧ RV ι v v' := by
 unfold abuild at hs
 split at hs
 rotate_left
 ·simp at hs
 rename_i i z ht hz
 obtain ⟨i',zs,ht',hzs,rfl⟩ := azero_of hz
 rw [ht] at ht'; simp at ht'; subst ht'
 obtain ⟨zv,hz1,hz2,hz9⟩ := run_zero hE ht w hzs
 obtain ⟨inf,d,h1,h2,h3,h4,h5,h6,h7⟩ := ti_parts hE ht
 have hzc : zv.cells = ⟨zs.map ZV.val⟩ := by rw [← hz2]
 split at hs
 ·rename_i fs hk
  rw [hk] at h3; obtain ⟨F,rfl,rfl⟩ := tk_struct h3
  split at hs
  rotate_left
  ·simp at hs
  rename_i pl hpl
  cases hf : lfill (fun k => pl[k]?) (zs.map ZV.val) ps with
  | none => simp [hf] at hs
  | some cs =>
   simp [hf] at hs; subst hs
   obtain ⟨r',hr1,hr2⟩ := lfill_sim hp.1 hp.2 (RVs.zeros (ι := ι) zs) hf
   refine ⟨.agg ⟨r'⟩,?_,.agg _ _ hr2⟩
   have hpl' := places_sim hE w hpl
   have e : (fun k : Nat => (pl.toArray)[k]?) = fun k => pl[k]? := by funext k; simp
   have hm : (F.mapM fun f => (do pure (f.offset,← Go.sizeOf f.type) : Sem (Nat × Nat))).run E.P w = .ok pl.toArray w := by
    rw [Array.mapM_eq_mapM_toList,Sem.run_map,hpl']; rfl
   simp only [Instr.build,Sem.run_bind,hz1,Result.andThen_ok,run_und hE ht w h2,hzc,hm,e,hr1,Sem.run_pure]
 ·rename_i n e hk
  rw [hk] at h3; obtain rfl := tk_arr h3
  split at hs
  rotate_left
  ·simp at hs
  rename_i j hj
  cases hf : lfill (fun k => some (k * j.size,j.size)) (zs.map ZV.val) ps with
  | none => simp [hf] at hs
  | some cs =>
   simp [hf] at hs; subst hs
   obtain ⟨r',hr1,hr2⟩ := lfill_sim hp.1 hp.2 (RVs.zeros (ι := ι) zs) hf
   refine ⟨.agg ⟨r'⟩,?_,.agg _ _ hr2⟩
   simp [Instr.build,hz1,run_und hE ht w h2,hzc,run_sizeOf' hE hj,hr1]
 ·simp at hs

theorem reps_length (z : List Value) (n : Nat) : (reps z n).length = n * z.length := by
 induction n with
 | zero => simp [reps]
 | succ n ih => simp [reps,ih,Nat.add_mul]; omega
theorem reps_get (z : List Value) (n i : Nat) (h : i < n * z.length) : (reps z n)[i]? = z[i % z.length]? := by
 induction n generalizing i with
 | zero => simp at h
 | succ n ih =>
  have hz : 0 < z.length := by
   rcases Nat.eq_zero_or_pos z.length with h0 | h0
   ·rw [h0] at h; simp at h
   ·exact h0
  simp only [reps]
  by_cases hi : i < z.length
  ·rw [List.getElem?_append_left hi,Nat.mod_eq_of_lt hi]
  ·rw [List.getElem?_append_right (by omega),ih (i - z.length) (by rw [Nat.add_mul] at h; omega)]
   congr 1
   rw [Nat.mod_eq_sub_mod (by omega : i ≥ z.length)]
theorem RVs.reps {z z' : List Value} (h : RVs ι z z') (n : Nat) : RVs ι (AbsYtkhcbbpfchgemaaDoor.reps z n) (AbsYtkhcbbpfchgemaaDoor.reps z' n) := by
 induction n with
 | zero => exact .nil
 | succ n ih => exact h.append ih
theorem range_reps (zero : Array Value) (n sz : Nat) (hz : zero.size = sz) (h0 : sz ≠ 0) : (Array.range (n * sz)).map (fun k => zero[k % zero.size]!) = ⟨AbsYtkhcbbpfchgemaaDoor.reps zero.toList n⟩ := by
 apply Array.ext_getElem?
 intro i
 by_cases hi : i < n * sz
 ·have hlt : i % zero.size < zero.size := Nat.mod_lt _ (by omega)
  have e := reps_get zero.toList n i (by simpa [hz] using hi)
  simp only [Array.length_toList] at e
  have : (⟨AbsYtkhcbbpfchgemaaDoor.reps zero.toList n⟩ : Array Value)[i]? = zero[i % zero.size]? := by simpa using e
  rw [this]
  simp [hi,getElem!_pos,hlt]
 ·rw [Array.getElem?_eq_none (by simp; omega),Array.getElem?_eq_none (by simp [reps_length,hz]; omega)]

theorem abuildSlice_sim (hE : TyOk E) (h : Rel E ι H w) (hfree : ι H.size = none) {t len : Nat} {ps ps' : List (Nat × Value)} {v : Value} (hp : RPs ι ps ps') (hs : abuildSlice E H t len ps = some (v,H')) :
  ∃ v' w' ι',(Instr.buildSlice t len ps'.toArray).run E.P w = .ok v' w' ∧ RV ι' v v' ∧ Rel E ι' H' w' ∧ Step ι H w ι' H' w' := by
 unfold abuildSlice at hs
 split at hs
 rotate_left
 ·simp at hs
 rename_i e _ _ _ _ ht
 obtain ⟨inf,d,h1,h2,h3,h4,h5,h6,h7⟩ := ti_parts hE ht
 obtain rfl := tk_slice h3
 split at hs
 rotate_left
 ·simp at hs
 rename_i j z hj hz
 obtain ⟨j',zs,hj',hzs,rfl⟩ := azero_of hz
 rw [hj] at hj'; simp at hj'; subst hj'
 obtain ⟨zv,hz1,hz2,hz9⟩ := run_zero hE hj w hzs
 have hzc : zv.cells = ⟨zs.map ZV.val⟩ := by rw [← hz2]
 split at hs
 ·simp at hs
 rename_i hcond
 simp at hcond
 obtain ⟨⟨hj0,hzl⟩,hmost⟩ := hcond
 cases hf : lfill (fun k => some (k * j.size,j.size)) (AbsYtkhcbbpfchgemaaDoor.reps (zs.map ZV.val) len) ps with
 | none => simp [hf] at hs
 | some cs =>
  simp only [hf,Option.map_some,Option.some.injEq] at hs
  obtain ⟨r',hr1,hr2⟩ := lfill_sim hp.1 hp.2 ((RVs.zeros (ι := ι) zs).reps len) hf
  have hlen : cs.length = len * j.size := by
   have gen : ∀ (ps : List (Nat × Value)) (a b : List Value),lfill (fun k => some (k * j.size,j.size)) a ps = some b → b.length = a.length := by
    intro ps
    induction ps with
    | nil => intro a b h; simp [lfill] at h; rw [h]
    | cons p ps ih =>
     intro a b h
     obtain ⟨i,u⟩ := p
     simp only [lfill] at h
     split at h
     ·rename_i hc; simp at hc; rw [ih _ _ h,splice_length _ _ _ (by omega)]
     ·simp at h
   rw [gen _ _ _ hf,reps_length]; simp [hzl]
  have hcl := hr2.length
  have hrun : (Instr.buildSlice t len ps'.toArray).run E.P w = .ok (.slice (some ⟨w.heap.size,0,none⟩) len len) (w.alloc (.cells ⟨r'⟩ e)) := by
   have hm2 : ¬ (len * j.size > 2 ^ 24) := by omega
   have hr := range_reps (⟨zs.map ZV.val⟩ : Array Value) len j.size (by simpa using hzl) hj0
   by_cases h00 : len * j.size = 0
   ·have hl0 : len = 0 := by
     rcases Nat.mul_eq_zero.1 h00 with h | h
     ·exact h
     ·exact absurd h hj0
    subst hl0
    have hr0 : ∀ z : Array Value,(Array.range (0 * j.size)).map (fun k => z[k % z.size]!) = ⟨[]⟩ := by intro z; simp
    simp only [reps] at hr1
    simp only [Instr.buildSlice,Sem.run_bind,run_und hE ht w h2,Result.andThen_ok,run_sizeOf' hE hj,if_neg hm2,if_pos h00,Sem.run_pure,hr0,hr1]
    simp [newRow]
   ·simp only [Instr.buildSlice,Sem.run_bind,run_und hE ht w h2,Result.andThen_ok,run_sizeOf' hE hj,if_neg hm2,if_neg h00,hz1,Sem.run_pure,hzc,hr,hr1]
    simp [newRow]
  have hca : CellsAt ι (⟨r'⟩ : Array Value) 0 cs := fun i v hv => by obtain ⟨v',h3,h4⟩ := hr2.get i v hv; exact ⟨v',by simpa using h3,h4⟩
  split at hs
  ·rename_i hdeep
   simp only [Bool.and_eq_true] at hdeep
   injection hs with e1 e2; subst e1; subst e2
   obtain ⟨hR,hS,hh⟩ := h.frozen (ty := e) (fz := (0,0)) hca hdeep.2
   exact ⟨_,_,_,hrun,.dsl 1 j.size len cs w.heap.size 0 len hh hlen (Nat.le_refl _) (fun _ => rfl) (fun t e => by omega),hR,hS⟩
  ·injection hs with e1 e2; subst e1; subst e2
   obtain ⟨hR,hS⟩ := h.alloc hfree (cs := cs) (wr := true) (sz := j.size) (C := ⟨r'⟩) (ty := e) (fz := (0,0))
    hca (by simp; omega) (fun _ off _ hf => by omega) (fun _ => by simp)
   exact ⟨.slice (some ⟨w.heap.size,0,none⟩) len len,_,_,hrun,.sliceX H.size 0 len len ⟨w.heap.size,0,j.size,_⟩ (Emb.with_same _ _ _) (Nat.le_refl _) (.inr (by simp; omega)),hR,hS⟩

theorem abound_sim {hi hi' : Option Value} {other most r : Nat} (hr : match hi,hi' with | none,none => True | some x,some y => RV ι x y | _,_ => False)
  (hs : abound hi other most = some r) (code : BoundsCode) (P : Program) (w : World) :
  match hi' with | none => r = other | some y => (Instr.sliceBound y most code).run P w = .ok r w := by
 unfold abound at hs
 split at hs
 ·cases hi' with
  | none => simpa using hs.symm
  | some _ => simp at hr
 ·cases hi' with
  | none => simp at hr
  | some y =>
   simp at hr
   cases hr
   split at hs
   ·rename_i hn; simp at hs; subst hs
    exact Go.run_sliceBound w _ _ _ _ hn.1 hn.2
   ·simp at hs
 ·simp at hs

end
end AbsYtkhcbbpfchgemaaDoor

/-
 Operations: cuts,maps,appends.
-/
namespace AbsYtkhcbbpfchgemaaDoor
set_option linter.unusedVariables false
set_option linter.unusedSimpArgs false
set_option linter.unusedSectionVars false
open Go

section
variable {E : Env} {ι : Emb} {H H' : AHeap} {w : World}

def RO (ι : Emb) (a b : Option Value) : Prop := match a,b with | none,none => True | some x,some y => RV ι x y | _,_ => False

theorem bounds_sim {P : Program} {isSlice : Bool} {len cap m h l : Nat} {lo lo' hi hi' mx mx' : Option Value} (hlo : RO ι lo lo') (hhi : RO ι hi hi') (hmx : RO ι mx mx') (hno : (mx.isSome && hi.isNone) = false)
  (hm : abound mx cap cap = some m) (hh : abound hi len m = some h) (hl : abound lo 0 h = some l) (w : World) :
  (Instr.sliceBounds isSlice len cap lo' hi' mx').run P w = .ok (l,h,m) w := by
 have e1 := fun code => abound_sim (ι := ι) hmx hm code P w
 have e2 := fun code => abound_sim (ι := ι) hhi hh code P w
 have e3 := fun code => abound_sim (ι := ι) hlo hl code P w
 cases mx' <;> cases hi' <;> cases lo' <;> cases mx <;> cases hi <;> cases lo <;> simp [RO] at hmx hhi hlo hno <;> simp_all [Instr.sliceBounds]

theorem abound_mono {v : Option Value} {o m m' r : Nat} (h : abound v o m = some r) (hm : m ≤ m') : abound v o m' = some r := by
 unfold abound at *
 split at h
 ·exact h
 ·split at h
  ·rename_i hn; simp at h; subst h; rw [if_pos ⟨hn.1,by omega⟩]
  ·simp at h
 ·simp at h
theorem abound_le {v : Option Value} {o m r : Nat} (h : abound v o m = some r) (ho : o ≤ m) : r ≤ m := by
 unfold abound at h
 split at h
 ·simp at h; omega
 ·split at h
  ·rename_i hn; simp at h; omega
  ·simp at h
 ·simp at h

theorem abound_some_le {v : Value} {o m r : Nat} (h : abound (some v) o m = some r) : r ≤ m := by
 cases v <;> simp [abound] at h
 omega
theorem abound_some_other {v : Value} {o o' m r : Nat} (h : abound (some v) o m = some r) : abound (some v) o' m = some r := by
 cases v <;> simp [abound] at h ⊢
 exact h

theorem szOk_loc (h : Rel E ι H w) {b n : Nat} {l : Loc} (hb : ι b = some l) (hs : szOk H b n = true) : l.sz = 0 ∨ l.sz = n := by
 unfold szOk at hs
 split at hs
 ·rename_i cs wr sz hg
  obtain ⟨C,ty,fz,h1,h2,h3,h4,h5,h6,h7⟩ := h.cells _ _ _ _ _ hb hg
  simp at hs; omega
 ·simp at hs

theorem RO.isSome {a b : Option Value} (h : RO ι a b) : a.isSome = b.isSome := by cases a <;> cases b <;> simp [RO] at h ⊢

theorem run_slice_gen {P : Program} {t e sz len cap l h m : Nat} {a : Option Addr} {lo hi mx : Option Value} (ht : P.underlying t = some (.slice e)) (hsz : ∀ w,(Go.sizeOf e).run P w = .ok sz w)
  (hb : (Instr.sliceBounds true len cap lo hi mx).run P w = .ok (l,h,m) w) :
  (Instr.sliceAt t (.slice a len cap) lo hi mx).run P w = .ok (.slice (if m = l then a else a.map (·.add (l * sz))) (h - l) (m - l)) w := by
 simp only [Instr.sliceAt,Sem.run_bind,run_und' w ht,Result.andThen_ok,Instr.slice,hb,hsz,Sem.run_pure]

theorem aslice_sim (hE : TyOk E) (hR : Rel E ι H w) {t : Nat} {x x' v : Value} {lo lo' hi hi' mx mx' : Option Value} (hx : RV ι x x') (hlo : RO ι lo lo') (hhi : RO ι hi hi') (hmx : RO ι mx mx')
  (hs : aslice E H t x lo hi mx = some v) : ∃ v',(Instr.sliceAt t x' lo' hi' mx').run E.P w = .ok v' w ∧ RV ι v v' := by
 unfold aslice at hs
 split at hs
 ·simp at hs
 rename_i i ht
 obtain ⟨inf,d,h1,h2,h3,h4,h5,h6,h7⟩ := ti_parts hE ht
 split at hs
 ·-- a string
  rename_i s hk
  rw [hk] at h3; obtain rfl := tk_string h3
  cases hx with | string _ =>
  split at hs
  ·simp at hs
  rename_i hmn
  have hmx0 : mx = none := by cases mx <;> simp at hmn ⊢
  subst hmx0
  have hmx1 : mx' = none := by cases mx' <;> simp [RO] at hmx ⊢
  subst hmx1
  split at hs
  rotate_left
  ·simp at hs
  rename_i h hh
  split at hs
  rotate_left
  ·simp at hs
  rename_i l hl
  simp at hs; subst hs
  have hb := bounds_sim (ι := ι) (P := E.P) (isSlice := false) (len := s.size) (cap := s.size) (m := s.size) (mx := none) (mx' := none) hlo hhi trivial rfl rfl hh hl w
  exact ⟨_,by simp [Instr.sliceAt,run_und hE ht w h2,Instr.slice,hb],.string _⟩
 ·-- a slice that isn't nil
  rename_i e b o ex len c hk
  rw [hk] at h3; obtain rfl := tk_slice h3
  split at hs
  ·simp at hs
  rename_i j hj
  split at hs
  ·simp at hs
  rename_i hno
  simp at hno
  obtain ⟨hno,hszok⟩ := hno
  have hno' : (mx.isSome && hi.isNone) = false := by
   cases mx <;> cases hi <;> simp at hno ⊢
  split at hs
  ·simp at hs
  rename_i m hm
  split at hs
  ·simp at hs
  rename_i h hh
  split at hs
  ·simp at hs
  rename_i l hl
  simp at hs; subst hs
  have hlh : l ≤ h := abound_le hl (by omega)
  have hmc : m ≤ c := abound_le hm (Nat.le_refl _)
  have hsz := run_sizeOf' hE hj
  cases hx with
  | sliceU _ _ _ _ c' lc hb hnc hcc htt =>
   have hlsz := szOk_loc hR hb hszok
   cases hmx0 : mx with
   | none =>
    subst hmx0
    have hmx1 : mx' = none := by cases mx' <;> simp [RO] at hmx ⊢
    subst hmx1
    simp [abound] at hm; subst hm
    have hhm := abound_le hh hnc
    have hb' := bounds_sim (ι := ι) (P := E.P) (isSlice := true) (len := len) (cap := c') (m := c') (mx := none) (mx' := none) hlo hhi trivial rfl rfl (abound_mono hh hcc) hl w
    refine ⟨_,run_slice_gen h2 hsz hb',?_⟩
    by_cases hc0 : c' = l
    ·subst hc0
     have e1 : h - c' = 0 := by omega
     have e2 : c - c' = 0 := by omega
     simp only [if_true,e1,e2,Nat.sub_self]
     exact .sliceUZ _ _ _ _ hb
    ·rw [if_neg hc0]
     simp only [Option.map_some,add_addr,Option.isSome_none,Bool.false_eq_true,if_false]
     rw [Nat.add_assoc]
     refine .sliceU b _ _ _ _ lc hb (by omega) (by omega) ?_
     rcases htt with h0 | h0
     ·exact .inl h0
     ·rcases hlsz with h8 | h8
      ·exact .inl h8
      ·right
       rw [← h8,Nat.sub_mul]
       have : l * lc.sz ≤ c' * lc.sz := Nat.mul_le_mul_right _ (by omega)
       omega
   | some mv =>
    subst hmx0
    have hm' := abound_mono (m' := c') (o := c) hm hcc
    have hm'' : abound (some mv) c' c' = some m := abound_some_other hm'
    have hhm : h ≤ m := by
     cases hi with
     | none => simp at hno'
     | some hv => exact abound_some_le hh
    have hb' := bounds_sim (ι := ι) (P := E.P) (isSlice := true) (len := len) (cap := c') (m := m) hlo hhi hmx hno' hm'' hh hl w
    refine ⟨_,run_slice_gen h2 hsz hb',?_⟩
    simp only [Option.isSome_some,if_true]
    by_cases hc0 : m = l
    ·subst hc0
     have e1 : h - m = 0 := by omega
     simp only [if_true,e1,Nat.sub_self]
     exact .sliceXZ _ _ _ _ hb
    ·rw [if_neg hc0]
     simp only [Option.map_some,add_addr]
     rw [Nat.add_assoc]
     refine .sliceX b _ _ _ lc hb (by omega) ?_
     rcases htt with h0 | h0
     ·exact .inl h0
     ·rcases hlsz with h8 | h8
      ·exact .inl h8
      ·right
       rw [← h8,Nat.sub_mul]
       have : l * lc.sz ≤ m * lc.sz := Nat.mul_le_mul_right _ (by omega)
       have : m * lc.sz ≤ c' * lc.sz := Nat.mul_le_mul_right _ (by omega)
       omega
  | sliceUZ _ _ a' lc hb =>
   have hm0 : m = 0 := by omega
   subst hm0
   have hh0 : h = 0 := by have := abound_le hh (Nat.le_refl _); omega
   subst hh0
   have hl0 : l = 0 := by omega
   subst hl0
   have hb' := bounds_sim (ι := ι) (P := E.P) (isSlice := true) hlo hhi hmx hno' hm hh hl w
   refine ⟨_,run_slice_gen h2 hsz hb',?_⟩
   simp only [if_true,Nat.sub_self]
   cases mx with
   | none => exact .sliceUZ _ _ _ _ hb
   | some _ => exact .sliceXZ _ _ _ _ hb
  | sliceX _ _ _ _ lc hb hnc htt =>
   have hlsz := szOk_loc hR hb hszok
   have hhm : h ≤ m := by
    cases hi with
    | none => cases mx with
     | none => simp [abound] at hm hh; omega
     | some _ => simp at hno'
    | some hv => exact abound_some_le hh
   have hb' := bounds_sim (ι := ι) (P := E.P) (isSlice := true) (len := len) (cap := c) (m := m) hlo hhi hmx hno' hm hh hl w
   refine ⟨_,run_slice_gen h2 hsz hb',?_⟩
   have hex : (if mx.isSome then some 1 else some 1 : Option Nat) = some 1 := by cases mx <;> rfl
   rw [hex]
   by_cases hc0 : m = l
   ·subst hc0
    have e1 : h - m = 0 := by omega
    simp only [if_true,e1,Nat.sub_self]
    exact .sliceXZ _ _ _ _ hb
   ·rw [if_neg hc0]
    simp only [Option.map_some,add_addr]
    rw [Nat.add_assoc]
    refine .sliceX b _ _ _ lc hb (by omega) ?_
    rcases htt with h0 | h0
    ·exact .inl h0
    ·rcases hlsz with h8 | h8
     ·exact .inl h8
     ·right
      rw [← h8,Nat.sub_mul]
      have : l * lc.sz ≤ m * lc.sz := Nat.mul_le_mul_right _ (by omega)
      have : m * lc.sz ≤ c * lc.sz := Nat.mul_le_mul_right _ (by omega)
      omega
  | sliceXZ _ _ a' lc hb =>
   have hm0 : m = 0 := by omega
   subst hm0
   have hh0 : h = 0 := by have := abound_le hh (Nat.le_refl _); omega
   subst hh0
   have hl0 : l = 0 := by omega
   subst hl0
   have hb' := bounds_sim (ι := ι) (P := E.P) (isSlice := true) hlo hhi hmx hno' hm hh hl w
   refine ⟨_,run_slice_gen h2 hsz hb',?_⟩
   simp only [if_true,Nat.sub_self]
   cases mx with
   | none => exact .sliceXZ _ _ _ _ hb
   | some _ => exact .sliceXZ _ _ _ _ hb
 ·-- nil
  rename_i e hk
  rw [hk] at h3; obtain rfl := tk_slice h3
  cases hx
  split at hs
  ·simp at hs
  rename_i j hj
  split at hs
  ·simp at hs
  rename_i hno
  have hno' : (mx.isSome && hi.isNone) = false := by
   cases hq : (mx.isSome && hi.isNone) with
   | false => rfl
   | true => exact absurd hq hno
  split at hs
  ·simp at hs
  rename_i m hm
  split at hs
  ·simp at hs
  rename_i h hh
  split at hs
  ·simp at hs
  rename_i l hl
  simp at hs; subst hs
  have hmc : m ≤ 0 := abound_le hm (Nat.le_refl _)
  have hm0 : m = 0 := by omega
  subst hm0
  have hh0 : h = 0 := by have := abound_le hh (Nat.le_refl _); omega
  subst hh0
  have hl0 : l = 0 := by have := abound_le hl (Nat.le_refl _); omega
  subst hl0
  have hb' := bounds_sim (ι := ι) (P := E.P) (isSlice := true) hlo hhi hmx hno' hm hh hl w
  refine ⟨_,run_slice_gen h2 (run_sizeOf' hE hj) hb',?_⟩
  simp only [if_true,Nat.sub_self]
  exact .slice0
 ·-- an array
  rename_i n e b o hk
  rw [hk] at h3; obtain rfl := tk_arr h3
  cases hx with | ptr _ _ lc hb =>
  split at hs
  ·simp at hs
  rename_i j hj
  split at hs
  ·simp at hs
  rename_i hno
  simp at hno
  obtain ⟨hno,hszok⟩ := hno
  subst hno
  have hmx1 : mx' = none := by cases mx' <;> simp [RO] at hmx ⊢
  subst hmx1
  split at hs
  ·simp at hs
  rename_i h hh
  split at hs
  ·simp at hs
  rename_i l hl
  simp at hs; subst hs
  have hlh : l ≤ h := abound_le hl (by omega)
  have hhn : h ≤ n := abound_le hh (Nat.le_refl _)
  have hlsz : lc.sz = 0 := by have := szOk_loc hR hb hszok; omega
  have hb' := bounds_sim (ι := ι) (P := E.P) (isSlice := false) (len := n) (cap := n) (m := n) (mx := none) (mx' := none) hlo hhi trivial rfl rfl hh hl w
  have hrun : (Instr.sliceAt t (.pointer (some ⟨lc.blk,lc.base + o,none⟩)) lo' hi' none).run E.P w =
    .ok (.slice (some (if n = l then ⟨lc.blk,lc.base + o,none⟩ else (⟨lc.blk,lc.base + o,none⟩ : Addr).add (l * j.size))) (h - l) (n - l)) w := by
   simp only [Instr.sliceAt,Sem.run_bind,run_und' w h2,Result.andThen_ok,Instr.sureAddr,Sem.run_pure,hb',run_sizeOf' hE hj]
  refine ⟨_,hrun,?_⟩
  by_cases hc0 : n = l
  ·subst hc0
   have e1 : h - n = 0 := by omega
   simp only [if_true,e1,Nat.sub_self]
   exact .sliceXZ _ _ _ _ hb
  ·rw [if_neg hc0,add_addr,Nat.add_assoc]
   exact .sliceX b _ _ _ lc hb (by omega) (.inl hlsz)
 ·-- a slice that holds its cells
  rename_i e xs md sz len hk
  rw [hk] at h3; obtain rfl := tk_slice h3
  split at hs
  ·cases hs
  rename_i j hj
  split at hs
  ·cases hs
  rename_i hno
  simp only [Bool.or_eq_true,Bool.not_eq_true',not_or,Bool.not_eq_true,Bool.not_eq_false] at hno
  obtain ⟨hno',hjsz⟩ := hno
  have hjsz : j.size = sz := Nat.eq_of_beq_eq_true (by simpa using hjsz)
  split at hs
  ·cases hs
  rename_i m hm
  split at hs
  ·cases hs
  rename_i h hh
  split at hs
  ·cases hs
  rename_i l hl
  injection hs with hs; subst hs
  have hlh : l ≤ h := abound_le hl (by omega)
  have hmc : m ≤ len := abound_le hm (Nat.le_refl _)
  have hsz := run_sizeOf' hE hj
  have hhm : h ≤ m := by
   cases hi with
   | none => cases mx with
    | none => simp [abound] at hm hh; omega
    | some _ => simp at hno'
   | some hv => exact abound_some_le hh
  cases hx with
  | dsl _ _ _ _ B o c' hd hlen hc g1 g2 =>
   have hcut : ι.holds B (o + l * sz) ((xs.drop (l * sz)).take ((h - l) * sz)) := (hd.drop _).take _
   have hcl : ((xs.drop (l * sz)).take ((h - l) * sz)).length = (h - l) * sz := by
    rw [List.length_take,List.length_drop,hlen,Nat.min_eq_left]
    have e1 : h * sz ≤ len * sz := Nat.mul_le_mul_right _ (by omega)
    have e2 : (h - l) * sz + l * sz = h * sz := by rw [← Nat.add_mul,Nat.sub_add_cancel hlh]
    omega
   cases hmx0 : mx with
   | none =>
    subst hmx0
    have hmx1 : mx' = none := by cases mx' <;> simp [RO] at hmx ⊢
    subst hmx1
    simp [abound] at hm; subst hm
    have hb' := bounds_sim (ι := ι) (P := E.P) (isSlice := true) (len := len) (cap := c') (m := c') (mx := none) (mx' := none) hlo hhi trivial rfl rfl (abound_mono hh hc) hl w
    refine ⟨_,run_slice_gen h2 hsz hb',?_⟩
    simp only [Option.isSome_none,Bool.false_eq_true,if_false]
    by_cases hc0 : c' = l
    ·have hn0 : h - l = 0 := by omega
     have hxs : (xs.drop (l * sz)).take ((h - l) * sz) = [] := by rw [hn0,Nat.zero_mul,List.take_zero]
     rw [if_pos hc0,hxs,hn0,show c' - l = 0 by omega]
     refine .dslZ _ _ _ ?_
     split
     ·split <;> omega
     ·split
      ·omega
      ·omega
    ·rw [if_neg hc0]
     simp only [Option.map_some,add_addr,hjsz]
     refine .dsl _ sz (h - l) _ B _ (c' - l) hcut hcl (by omega) ?_ ?_
     ·intro he
      split at he
      ·rename_i h1; split at he
       ·rename_i h2; have := g1 h1; omega
       ·omega
      ·split at he
       ·omega
       ·omega
     ·intro t he
      split at he
      ·split at he <;> omega
      ·split at he
       ·rename_i hh2
        obtain ⟨lt,k1,k2,k3,k4,k5⟩ := g2 t he
        refine ⟨lt,k1,k2,?_,k4,?_⟩
        ·rw [k3,hh2.1,Nat.add_assoc,← Nat.add_mul]; congr 2; omega
        ·rw [Nat.add_assoc,← Nat.add_mul,show l + (c' - l) = c' by omega]; exact k5
       ·omega
   | some mv =>
    subst hmx0
    have hm' := abound_mono (m' := c') (o := len) hm hc
    have hm'' : abound (some mv) c' c' = some m := abound_some_other hm'
    have hb' := bounds_sim (ι := ι) (P := E.P) (isSlice := true) (len := len) (cap := c') (m := m) hlo hhi hmx hno' hm'' hh hl w
    refine ⟨_,run_slice_gen h2 hsz hb',?_⟩
    simp only [Option.isSome_some,if_true]
    by_cases hc0 : m = l
    ·have hn0 : h - l = 0 := by omega
     have hxs : (xs.drop (l * sz)).take ((h - l) * sz) = [] := by rw [hn0,Nat.zero_mul,List.take_zero]
     rw [if_pos hc0,hxs,hn0,show m - l = 0 by omega]
     refine .dslZ _ _ _ ?_
     split <;> omega
    ·rw [if_neg hc0]
     simp only [Option.map_some,add_addr,hjsz]
     refine .dsl _ sz (h - l) _ B _ (m - l) hcut hcl (by omega) ?_ ?_
     ·intro he
      split at he
      ·rename_i h1; rw [h1]
      ·omega
     ·intro t he
      split at he <;> omega
  | dslZ _ _ a' hmd =>
   have hm0 : m = 0 := by omega
   subst hm0
   have hh0 : h = 0 := by omega
   subst hh0
   have hl0 : l = 0 := by omega
   subst hl0
   have hb' := bounds_sim (ι := ι) (P := E.P) (isSlice := true) hlo hhi hmx hno' hm hh hl w
   refine ⟨_,run_slice_gen h2 hsz hb',?_⟩
   simp only [if_true,Nat.sub_self,Nat.zero_mul,List.take_zero]
   refine .dslZ _ _ _ ?_
   cases mx with
   | some _ => simp only [Option.isSome_some,if_true]; first | omega | (split <;> omega)
   | none =>
    simp only [Option.isSome_none,Bool.false_eq_true,if_false]
    split
    ·first | omega | (split <;> omega)
    ·first | omega | (split <;> omega)
 ·cases hs

end
end AbsYtkhcbbpfchgemaaDoor

/-
 Operations: appends,makes,conversions between bytes and strings.
-/
namespace AbsYtkhcbbpfchgemaaDoor
set_option linter.unusedVariables false
set_option linter.unusedSimpArgs false
set_option linter.unusedSectionVars false
open Go

section
variable {E : Env} {ι : Emb} {H H' : AHeap} {w : World}

mutual
theorem RV.bare {v v' : Value} (h : RV ι v v') : RV ι (AbsYtkhcbbpfchgemaaDoor.bare v) v' := by
 cases h with
 | bool b => exact .bool b
 | int k n => exact .int k n
 | string s => exact .string s
 | ptr0 => exact .ptr0
 | ptr b o l h => exact .ptr b o l h
 | slice0 => exact .slice0
 | sliceU b o n c c' l h hn hc ht => exact .sliceU b o n c c' l h hn hc ht
 | sliceUZ b o a l h => exact .sliceUZ b o a l h
 | sliceX b o n c l h hn ht => exact .sliceX b o n c l h hn ht
 | sliceXZ b o a l h => exact .sliceXZ b o a l h
 | map0 => exact .map0
 | map r l h => exact .map r l h
 | nilFunc => exact .nilFunc
 | func f xs ys xs' ys' h h' => exact .func f xs ys xs' ys' h h'
 | dptr cs B o h => exact .dptr cs B o h
 | dsl m sz n xs B o c' h hl hc h1 h2 =>
  simp only [AbsYtkhcbbpfchgemaaDoor.bare]
  refine .dsl _ sz n xs B o c' h hl hc (fun e => ?_) (fun t e => ?_)
  ·split at e
   ·exact h1 e
   ·omega
  ·split at e <;> omega
 | dslZ m sz a hm =>
  simp only [AbsYtkhcbbpfchgemaaDoor.bare]
  exact .dslZ _ sz a (by split <;> omega)
 | nilIface => exact .nilIface
 | iface t v v' h => exact .iface t _ v' (RV.bare h)
 | agg xs xs' h => exact .agg _ xs' (RVs.bareL h)
 | tuple xs xs' h => exact .tuple _ xs' (RVs.bareL h)
 | tok n t => exact .tok n t
theorem RVs.bareL {vs vs' : List Value} (h : RVs ι vs vs') : RVs ι (AbsYtkhcbbpfchgemaaDoor.bareL vs) vs' := by
 cases h with
 | nil => exact .nil
 | cons v v' vs vs' h hs => exact .cons _ v' _ vs' (RV.bare h) (RVs.bareL hs)
end
theorem Emb.holds.append {B o : Nat} {xs ys : List Value} (h : ι.holds B o xs) (h' : ι.holds B (o + xs.length) ys) : ι.holds B o (xs ++ ys) := fun i v e => by
 by_cases hi : i < xs.length
 ·rw [List.getElem?_append_left hi] at e; exact h i v e
 ·rw [List.getElem?_append_right (by omega)] at e
  have := h' _ _ e
  rw [show o + xs.length + (i - xs.length) = o + i by omega] at this; exact this
theorem frzL_append {ng nb : Nat} : ∀ {xs ys : List Value},frzL ng nb xs = true → frzL ng nb ys = true → frzL ng nb (xs ++ ys) = true
 | [],ys,_,h => h
 | x :: xs,ys,h,h' => by
  simp only [frzL,Bool.and_eq_true,List.cons_append] at h ⊢
  exact ⟨h.1,frzL_append h.2 h'⟩
theorem holds_frz (h : Rel E ι H w) {B o : Nat} : ∀ {xs : List Value},ι.holds B o xs → frzL E.ng E.nb xs = true
 | [],_ => rfl
 | x :: xs,hh => by
  simp only [frzL,Bool.and_eq_true]
  exact ⟨(h.imm _ _ _ (hh 0 x rfl)).1,holds_frz h (o := o + 1) fun i v e => by
   have := hh (i + 1) v (by simpa using e)
   rw [show o + 1 + i = o + (i + 1) by omega]; exact this⟩

theorem takeCells_parts {b o n : Nat} {l : List Value} (h : takeCells H b o n = some l) : ∃ cs wr sz,H.get b = .cells cs wr sz ∧ o + n ≤ cs.length ∧ l = (cs.drop o).take n := by
 unfold takeCells at h
 split at h
 ·rename_i cs wr sz hg
  split at h
  ·rename_i hl; simp at h; exact ⟨cs,wr,sz,hg,hl,h.symm⟩
  ·simp at h
 ·simp at h

theorem takeCells_sim {P : Program} (h : Rel E ι H w) {b o n : Nat} {l : Loc} {vs : List Value} (hb : ι b = some l) (ht : takeCells H b o n = some vs) :
  ∃ vs',(loadCells ⟨l.blk,l.base + o,none⟩ n).run P w = .ok ⟨vs'⟩ w ∧ RVs ι vs vs' ∧ vs.length = n := by
 obtain ⟨cs,wr,sz,hg,hl,rfl⟩ := takeCells_parts ht
 obtain ⟨C,ty,fz,h1,h2,h3,h4,h5,h6,h7⟩ := h.cells _ _ _ _ _ hb hg
 exact ⟨_,run_loadCells' h1 (by omega),h5.slice hl,by simp; omega⟩

theorem srcCells_sim (h : Rel E ι H w) {size k : Nat} {x x' : Value} {vs : List Value} (hx : RV ι x x') (hs : srcCells H size x = some (k,vs)) :
  (Builtin.lenOf x').run E.P w = .ok k w ∧ ∃ vs',(Builtin.firstCells size k x').run E.P w = .ok ⟨vs'⟩ w ∧ RVs ι vs vs' ∧ vs.length = k * size := by
 unfold srcCells at hs
 split at hs
 ·simp at hs; obtain ⟨rfl,rfl⟩ := hs
  cases hx
  exact ⟨rfl,[],rfl,.nil,by simp⟩
 ·rename_i b o ex n c
  cases ht : takeCells H b o (n * size) with
  | none => simp [ht] at hs
  | some l =>
   simp [ht] at hs; obtain ⟨rfl,rfl⟩ := hs
   cases hx with
   | sliceU _ _ _ _ c' lc hb _ _ _ =>
    obtain ⟨vs',h1,h2,h3⟩ := takeCells_sim (P := E.P) h hb ht
    exact ⟨rfl,vs',h1,h2,h3⟩
   | sliceX _ _ _ _ lc hb _ _ =>
    obtain ⟨vs',h1,h2,h3⟩ := takeCells_sim (P := E.P) h hb ht
    exact ⟨rfl,vs',h1,h2,h3⟩
   | sliceUZ _ _ a' lc hb =>
    obtain ⟨cs,wr,sz,_,_,rfl⟩ := takeCells_parts ht
    refine ⟨rfl,[],?_,?_,by simp⟩
    ·simp only [Builtin.firstCells,Nat.zero_mul]; rfl
    ·simp; exact .nil
   | sliceXZ _ _ a' lc hb =>
    obtain ⟨cs,wr,sz,_,_,rfl⟩ := takeCells_parts ht
    refine ⟨rfl,[],?_,?_,by simp⟩
    ·simp only [Builtin.firstCells,Nat.zero_mul]; rfl
    ·simp; exact .nil
 ·rename_i s
  split at hs
  ·rename_i h1
   simp at hs; obtain ⟨rfl,rfl⟩ := hs
   cases hx
   subst h1
   refine ⟨rfl,s.data.toList.map fun b => .int .u8 b.toNat,?_,RVs.map_val _ _ _ fun a _ => .int _ _,by simp⟩
   have he : s.extract 0 s.size = s := by
    apply ByteArray.ext
    simp
   simp only [Builtin.firstCells,Sem.run_pure,he]
   congr 1
   apply Array.ext'
   simp
  ·simp at hs
 ·rename_i xs md sz n
  split at hs
  rotate_left
  ·cases hs
  rename_i hsz
  subst hsz
  injection hs with hs; injection hs with e1 e2; subst e1; subst e2
  cases hx with
  | dsl _ _ _ _ B o c' hh hl hc g1 g2 =>
   have hz : ∃ vs',(loadCells ⟨B,o,none⟩ (n * sz)).run E.P w = .ok ⟨vs'⟩ w ∧ RVs ι (xs.take (n * sz)) vs' := by
    by_cases hz : n * sz = 0
    ·rw [hz]; exact ⟨[],rfl,by simp; exact .nil⟩
    ·have hne : xs ≠ [] := by intro e; subst e; simp at hl; omega
     obtain ⟨C,ty,fz,h1,h2⟩ : ∃ C ty fz,w.heap[B]? = some (.cells C ty fz) ∧ CellsAt ι C o xs := by
      cases xs with
      | nil => exact absurd rfl hne
      | cons c cs =>
       obtain ⟨_,C,ty,fz,v',h1,h2,h3⟩ := h.imm B (o + 0) c (hh 0 c rfl)
       refine ⟨C,ty,fz,h1,fun i v hv => ?_⟩
       obtain ⟨_,C2,ty2,fz2,v2,k1,k2,k3⟩ := h.imm B (o + i) v (hh i v hv)
       rw [h1] at k1; injection k1 with k1; injection k1 with k1 _ _; subst k1
       exact ⟨v2,k2,k3⟩
     have hlt : n * sz - 1 < xs.length := by omega
     obtain ⟨v',h3,_⟩ := h2 (n * sz - 1) xs[n * sz - 1] (by simp [hlt])
     have := getElem?_lt h3
     refine ⟨_,run_loadCells' h1 (by omega),?_⟩
     have := h2.slice (o := 0) (n := n * sz) (by omega)
     simpa using this
   obtain ⟨vs',k1,k2⟩ := hz
   rw [List.take_of_length_le (by omega)] at k2
   exact ⟨rfl,vs',by simp only [Builtin.firstCells]; exact k1,k2,hl⟩
  | dslZ _ _ a' hm =>
   refine ⟨rfl,[],?_,.nil,by simp⟩
   simp only [Builtin.firstCells,Nat.zero_mul]; rfl
 ·simp at hs

theorem notInt {du : TypeDesc} (h : ∀ k,du ≠ .int k) : (match (generalizing := false) du with | .int _ => true | _ => false) = false := by
 cases du <;> first | rfl | exact absurd rfl (h _)

theorem run_append_in {P : Program} {t u ty e sz sLen sCap n : Nat} {du : TypeDesc} {base : Option Addr} {x : Value} {new : List Value} {w' : World} (ht : P.underlying t = some (.slice e)) (hu : P.underlying u = some du) (hdu : ∀ k,du ≠ .int k)
  (hsz : ∀ w,(Go.sizeOf e).run P w = .ok sz w) (hlen : (Builtin.lenOf x).run P w = .ok n w) (hnew : (Builtin.firstCells sz n x).run P w = .ok ⟨new⟩ w) (hroom : sLen + n ≤ sCap)
  (hst : (match base with | some a => storeCells (a.add (sLen * sz)) new | none => pure ()).run P w = .ok () w') :
  (Builtin.append_ #[t,u] ty #[.slice base sLen sCap,x]).run P w = .ok (.slice base (sLen + n) sCap) w' := by
 have hz' : (match (generalizing := false) du with | .int _ => true | _ => false) = false := notInt hdu
 simp only [Builtin.append_,List.getElem?_toArray,List.getElem?_cons_zero,List.getElem?_cons_succ,Sem.run_bind,run_und' w ht,Result.andThen_ok,hsz,run_und' w hu,hz',Sem.run_pure,Bool.false_eq_true,if_false,
  hlen,Bool.not_false,if_true,if_pos hroom,hnew]
 cases base with
 | none => simp at hst; subst hst; rfl
 | some a => simp only [Sem.run_bind]; rw [hst]; rfl

theorem run_append_out {P : Program} {t u ty e sz by_ sLen sCap n : Nat} {du : TypeDesc} {inf : TypeInfo} {z : Value} {s x : Value} {base : Option Addr} {old new : List Value} (hs : s = .slice base sLen sCap) (ht : P.underlying t = some (.slice e)) (hu : P.underlying u = some du) (hdu : ∀ k,du ≠ .int k)
  (hsz : ∀ w,(Go.sizeOf e).run P w = .ok sz w) (hinf : ∀ w,(typeInfo e).run P w = .ok inf w) (hby : inf.bytes = by_) (hz : ∀ w,(zeroValue e).run P w = .ok z w) (hlen : (Builtin.lenOf x).run P w = .ok n w)
  (hold : (Builtin.firstCells sz sLen s).run P w.drew = .ok ⟨old⟩ w.drew) (hnew : (Builtin.firstCells sz n x).run P w.drew = .ok ⟨new⟩ w.drew) (hroom : ¬ sLen + n ≤ sCap)
  (hb0 : by_ ≠ 0) (hfit : (sLen + n) * by_ ≤ 140737488355328) :
  ∃ cap,sLen + n ≤ cap ∧ (Builtin.append_ #[t,u] ty #[s,x]).run P w =
   .ok (.slice (some ⟨w.heap.size,0,none⟩) (sLen + n) cap) (w.drew.alloc (.cells (⟨old⟩ ++ ⟨new⟩ ++ Builtin.zeroCells z.cells (cap - (sLen + n))) e)) := by
 subst hs
 have hz1 : (match (generalizing := false) du with | .int _ => true | _ => false) = false := notInt hdu
 have hf := growslice_fits (need := sLen + n) (old := sCap) (bytes := by_) (by omega) hfit
 have h48 : ¬ (Builtin.nextslicecap (sLen + n) sCap * by_ > 2 ^ 48) := by omega
 have h63 : ¬ (((sLen + n : Nat) : Int) > IntKind.i64.max ∧ (False ∨ by_ = 0)) := by
  rintro ⟨_,h | h⟩
  ·exact h
  ·exact hb0 h
 refine ⟨(Question.appendCap (sLen + n) sCap e).cut (w.tape w.drawn (.appendCap (sLen + n) sCap e)),?_,?_⟩
 ·simp only [Question.cut]; omega
 ·simp only [Builtin.append_,List.getElem?_toArray,List.getElem?_cons_zero,List.getElem?_cons_succ,Sem.run_bind,run_und' w ht,Result.andThen_ok,hsz,run_und' w hu,hz1,Sem.run_pure,Bool.false_eq_true,if_false,
   hlen,if_neg hroom,hinf,hby,if_neg h63,if_neg h48,run_choose,Question.forced]
  have hd : ({ w with drawn := w.drawn + 1 } : World) = w.drew := rfl
  simp only [hd,run_askRoom,Result.andThen_ok,Bool.not_false,if_true,Sem.run_bind]
  rw [hold]
  simp only [Result.andThen_ok]
  rw [hnew]
  simp only [Result.andThen_ok,hz,newRow,Sem.run_bind,Go.run_newObj,Sem.run_pure]
  rfl

theorem zeroCells_size (z : Array Value) (n : Nat) : (Builtin.zeroCells z n).size = n * z.size := by simp [Builtin.zeroCells]

set_option maxHeartbeats 2000000 in
theorem aappend_sim (hE : TyOk E) (h : Rel E ι H w) (hfree : ι H.size = none) {t u ty : Nat} {s s' x x' v : Value} (hs : RV ι s s') (hx : RV ι x x') (ha : aappend E H [t,u] [s,x] = some (v,H')) :
  ∃ v' w' ι',(Builtin.append_ #[t,u] ty #[s',x']).run E.P w = .ok v' w' ∧ RV ι' v v' ∧ Rel E ι' H' w' ∧ Step ι H w ι' H' w' := by
 unfold aappend at ha
 simp only at ha
 split at ha
 rotate_left
 ·simp at ha
 rename_i e _ _ _ _ iu ht hu
 obtain ⟨inft,d,ht1,ht2,ht3,ht4,ht5,ht6,ht7⟩ := ti_parts hE ht
 obtain rfl := tk_slice ht3
 obtain ⟨infu,du,hu1,hu2,hu3,hu4,hu5,hu6,hu7⟩ := ti_parts hE hu
 split at ha
 rotate_left
 ·simp at ha
 rename_i j z hj hz
 obtain ⟨j',zs,hj',hzs,rfl⟩ := azero_of hz
 rw [hj] at hj'; simp at hj'; subst hj'
 obtain ⟨infe,de,he1,he2,he3,he4,he5,he6,he7⟩ := ti_parts hE hj
 obtain ⟨zv,hz1,hz2,hz9⟩ := he6 zs hzs
 have hz3 : ∀ w,(zeroValue e).run E.P w = .ok zv w := fun w => by simp [zeroValue,typeInfo,he1,hz1]
 have hinf : ∀ w,(typeInfo e).run E.P w = .ok infe w := fun w => by simp [typeInfo,he1]
 have hsz := run_sizeOf' hE hj
 split at ha
 ·simp at ha
 rename_i hcond
 simp only [Bool.or_eq_true,decide_eq_true_eq,bne_iff_ne,not_or,ne_eq,Decidable.not_not] at hcond
 obtain ⟨⟨⟨hj0,hb0⟩,hzl⟩,hint⟩ := hcond
 have hzsize : zv.cells.size = j.size := by
  have : zv.cells.toList.length = j.size := by rw [hz2]; simpa using hzl
  simpa using this
 have hdu : ∀ k,du ≠ .int k := fun k e => by
  subst e
  rw [← hu3] at hint
  simp [tkOf,TK.isInt] at hint
 split at ha
 ·simp at ha
 rename_i k new hsrc
 obtain ⟨hlen,new',hnew,hnr,hnl⟩ := srcCells_sim h hx hsrc
 have hnl' := hnr.length
 have hdrew : Rel E ι H w.drew := h.world rfl
 have grow : ∀ {s' : Value} {base : Option Addr} {sLen sCap : Nat} {old old' : List Value} {H0 : AHeap},s' = .slice base sLen sCap → (Builtin.firstCells j.size sLen s').run E.P w.drew = .ok ⟨old'⟩ w.drew → RVs ι old old' →
   old.length = sLen * j.size → ¬ sLen + k ≤ sCap → (sLen + k) * j.bytes ≤ 140737488355328 → Rel E ι H0 w → ι H0.size = none → Step ι H w ι H0 w → (old ++ new).all oneCell = true ∨ True →
   ∃ v' w' ι',(Builtin.append_ #[t,u] ty #[s',x']).run E.P w = .ok v' w' ∧ RV ι' (.slice (some ⟨H0.size,0,none⟩) (sLen + k) (sLen + k)) v' ∧ Rel E ι' (H0.alloc (.cells (old ++ new) true j.size)) w' ∧
    Step ι H w ι' (H0.alloc (.cells (old ++ new) true j.size)) w' := by
  intro s' base sLen sCap old old' H0 hs' hold hor hol hroom hfit h0 hfree0 hst0 _
  obtain ⟨_,new2,hnewd,hnr2,_⟩ := srcCells_sim hdrew hx hsrc
  obtain ⟨cap,hcap,hrun⟩ := run_append_out (ty := ty) hs' ht2 hu2 hdu hsz hinf he5 hz3 hlen hold hnewd hroom hb0 hfit
  have hcells := hor.append hnr2
  have hcl := hcells.length
  have hall : (⟨old'⟩ ++ ⟨new2⟩ ++ Builtin.zeroCells zv.cells (cap - (sLen + k)) : Array Value) = ⟨(old' ++ new2) ++ (Builtin.zeroCells zv.cells (cap - (sLen + k))).toList⟩ := by
   apply Array.ext'; simp
  have hlen2 : (old ++ new).length = (sLen + k) * j.size := by rw [List.length_append,hol,hnl,Nat.add_mul]
  have htot : (⟨(old' ++ new2) ++ (Builtin.zeroCells zv.cells (cap - (sLen + k))).toList⟩ : Array Value).size = cap * j.size := by
   have e1 : (old' ++ new2).length = (sLen + k) * j.size := by rw [← hcl,hlen2]
   have e2 := zeroCells_size zv.cells (cap - (sLen + k))
   simp only [List.size_toArray,List.length_append] at e1 ⊢
   simp only [Array.length_toList,e2,hzsize]
   rw [e1,← Nat.add_mul]; congr 1; omega
  have hd0 : Rel E ι H0 w.drew := h0.world rfl
  obtain ⟨hR,hS⟩ := hd0.alloc hfree0 (cs := old ++ new) (wr := true) (sz := j.size) (C := ⟨(old' ++ new2) ++ (Builtin.zeroCells zv.cells (cap - (sLen + k))).toList⟩) (ty := e) (fz := (0,0))
   (fun i v hv => by
     obtain ⟨v',h3,h4⟩ := hcells.get i v hv
     refine ⟨v',?_,h4⟩
     have : i < (old' ++ new2).length := by
      rcases Nat.lt_or_ge i (old' ++ new2).length with h9 | h9
      ·exact h9
      ·rw [List.getElem?_eq_none h9] at h3; simp at h3
     simp only [Nat.zero_add,List.getElem?_toArray]
     rw [List.getElem?_append_left this]; exact h3)
   (by simp only [List.size_toArray,List.length_append] at hcl ⊢; omega) (fun _ off _ hf => by simp at hf) (fun _ => by simp)
  rw [hall] at hrun
  refine ⟨_,_,_,hrun,.sliceU H0.size 0 _ _ cap _ (Emb.with_same _ _ _) (Nat.le_refl _) hcap (.inr ?_),hR,hst0.trans (Step.trans (Step.world (w2 := w.drew) (Step.refl ι H0 w) rfl rfl rfl rfl) hS)⟩
  exact Nat.le_of_eq (by rw [show ∀ a : Nat,0 + 0 + a = a from fun a => by omega]; exact htot.symm)
 have growD : ∀ {s' : Value} {base : Option Addr} {sLen sCap : Nat} {old old' : List Value} {H0 : AHeap},s' = .slice base sLen sCap → (Builtin.firstCells j.size sLen s').run E.P w.drew = .ok ⟨old'⟩ w.drew → RVs ι old old' →
   old.length = sLen * j.size → ¬ sLen + k ≤ sCap → (sLen + k) * j.bytes ≤ 140737488355328 → Rel E ι H0 w → ι H0.size = none → Step ι H w ι H0 w → frzL E.ng E.nb old = true → frzL E.ng E.nb (bareL new) = true →
   ∃ v' w' ι',(Builtin.append_ #[t,u] ty #[s',x']).run E.P w = .ok v' w' ∧ RV ι' (deepNew H0 j.size (sLen + k) (old ++ bareL new)).1 v' ∧ Rel E ι' (deepNew H0 j.size (sLen + k) (old ++ bareL new)).2 w' ∧
    Step ι H w ι' (deepNew H0 j.size (sLen + k) (old ++ bareL new)).2 w' := by
  intro s' base sLen sCap old old' H0 hs' hold hor hol hroom hfit h0 hfree0 hst0 hfo hfn
  obtain ⟨_,new2,hnewd,hnr2,_⟩ := srcCells_sim hdrew hx hsrc
  obtain ⟨cap,hcap,hrun⟩ := run_append_out (ty := ty) hs' ht2 hu2 hdu hsz hinf he5 hz3 hlen hold hnewd hroom hb0 hfit
  have hcells := hor.append hnr2.bareL
  have hcl := hcells.length
  have hbl : (bareL new).length = new.length := by rw [hnr2.bareL.length,hnr2.length]
  have hall : (⟨old'⟩ ++ ⟨new2⟩ ++ Builtin.zeroCells zv.cells (cap - (sLen + k)) : Array Value) = ⟨(old' ++ new2) ++ (Builtin.zeroCells zv.cells (cap - (sLen + k))).toList⟩ := by
   apply Array.ext'; simp
  have hlen2 : (old ++ bareL new).length = (sLen + k) * j.size := by rw [List.length_append,hol,hbl,hnl,Nat.add_mul]
  have htot : (⟨(old' ++ new2) ++ (Builtin.zeroCells zv.cells (cap - (sLen + k))).toList⟩ : Array Value).size = cap * j.size := by
   have e1 : (old' ++ new2).length = (sLen + k) * j.size := by rw [← hcl,hlen2]
   have e2 := zeroCells_size zv.cells (cap - (sLen + k))
   simp only [List.size_toArray,List.length_append] at e1 ⊢
   simp only [Array.length_toList,e2,hzsize]
   rw [e1,← Nat.add_mul]; congr 1; omega
  have hmul : (sLen + k) * j.size ≤ cap * j.size := Nat.mul_le_mul_right _ hcap
  have hd0 : Rel E ι H0 w.drew := h0.world rfl
  obtain ⟨hR,hS⟩ := hd0.allocAt hfree0 (base := (sLen + k) * j.size) (cs := []) (wr := true) (sz := j.size) (C := ⟨(old' ++ new2) ++ (Builtin.zeroCells zv.cells (cap - (sLen + k))).toList⟩) (ty := e) (fz := (0,0))
   (fun i v hv => by simp at hv) (by rw [htot]; simpa using hmul) (fun _ off _ hf => by simp at hf) (fun _ => by simp)
  have hcA : CellsAt ι (⟨(old' ++ new2) ++ (Builtin.zeroCells zv.cells (cap - (sLen + k))).toList⟩ : Array Value) 0 (old ++ bareL new) := fun i v hv => by
   obtain ⟨v',h3,h4⟩ := hcells.get i v hv
   refine ⟨v',?_,h4⟩
   have : i < (old' ++ new2).length := by
    rcases Nat.lt_or_ge i (old' ++ new2).length with h9 | h9
    ·exact h9
    ·rw [List.getElem?_eq_none h9] at h3; simp at h3
   simp only [Nat.zero_add,List.getElem?_toArray]
   rw [List.getElem?_append_left this]; exact h3
  have hR2 := hR.freeze (heap_alloc_at _ _) (hcA.mono hS.ext) (frzL_append hfo hfn)
   (fun b l hb hw hbl => by
     by_cases e : b = H0.size
     ·subst e; rw [Emb.with_same] at hb; injection hb with hb; subst hb
      rw [hlen2]; simp
     ·rw [Emb.with_ne _ _ e] at hb
      have := hd0.dom b l hb
      omega)
  rw [hall] at hrun
  refine ⟨_,_,_,hrun,?_,hR2,hst0.trans ((Step.trans (Step.world (w2 := w.drew) (Step.refl ι H0 w) rfl rfl rfl rfl) hS).puts (.inl (Nat.le_refl _)))⟩
  refine .dsl (H0.size + 2) j.size (sLen + k) _ w.heap.size 0 cap (Emb.put_holds _ _ _ _) hlen2 hcap (fun e => by omega) (fun t e => ?_)
  obtain rfl : t = H0.size := by omega
  exact ⟨_,Emb.with_same _ _ _,rfl,by simp,rfl,by rw [htot]; simp⟩
 split at ha
 ·-- nil
  cases hs
  split at ha
  ·rename_i hk
   subst hk
   simp at ha; obtain ⟨rfl,rfl⟩ := ha
   exact ⟨_,w,ι,run_append_in (ty := ty) ht2 hu2 hdu hsz hlen hnew (Nat.le_refl _) rfl,.slice0,h,Step.refl _ _ _⟩
  ·rename_i hk
   split at ha
   rotate_left
   ·simp at ha
   rename_i hc
   simp at hc
   split at ha
   ·split at ha
    rotate_left
    ·cases ha
    rename_i hfz
    injection ha with ha; injection ha with e1 e2; subst e1; subst e2
    have := growD (base := none) (sLen := 0) (sCap := 0) (old := []) (old' := []) (H0 := H) rfl (by simp only [Builtin.firstCells]; rfl) .nil (by simp) (by omega) (by rw [Nat.zero_add]; exact hc.1) h hfree (Step.refl _ _ _) rfl hfz
    rw [Nat.zero_add,List.nil_append] at this
    exact this
   simp at ha; obtain ⟨rfl,rfl⟩ := ha
   have := grow (base := none) (sLen := 0) (sCap := 0) (old := []) (old' := []) (H0 := H) rfl (by simp only [Builtin.firstCells]; rfl) .nil (by simp) (by omega) (by rw [Nat.zero_add]; exact hc.1) h hfree (Step.refl _ _ _) (.inr trivial)
   rw [Nat.zero_add] at this
   exact this
 ·rename_i b o ex n c
  split at ha
  ·-- room
   rename_i hroom
   split at ha
   rotate_left
   ·simp at ha
   rename_i cs wr sz hg
   split at ha
   rotate_left
   ·simp at ha
   rename_i hsz2
   split at ha
   ·rename_i hk0
    subst hk0
    simp at ha; obtain ⟨rfl,rfl⟩ := ha
    have hn0 : new = [] := by cases new with | nil => rfl | cons _ _ => simp at hnl
    subst hn0
    cases hnr
    cases hs with
    | sliceU _ _ _ _ c' l hb hnc hcc htt => exact ⟨_,w,ι,run_append_in (ty := ty) ht2 hu2 hdu hsz hlen hnew (by omega) rfl,.sliceU _ _ _ _ c' l hb hnc hcc htt,h,Step.refl _ _ _⟩
    | sliceUZ _ _ a' l hb => exact ⟨_,w,ι,run_append_in (ty := ty) ht2 hu2 hdu hsz hlen hnew (by omega) rfl,.sliceUZ _ _ _ _ hb,h,Step.refl _ _ _⟩
    | sliceX _ _ _ _ l hb hnc htt => exact ⟨_,w,ι,run_append_in (ty := ty) ht2 hu2 hdu hsz hlen hnew (by omega) rfl,.sliceX _ _ _ _ l hb hnc htt,h,Step.refl _ _ _⟩
    | sliceXZ _ _ a' l hb => exact ⟨_,w,ι,run_append_in (ty := ty) ht2 hu2 hdu hsz hlen hnew (by omega) rfl,.sliceXZ _ _ _ _ hb,h,Step.refl _ _ _⟩
   ·rename_i hk0
    cases hst : astoreAt H b (o + n * j.size) new with
    | none => simp [hst] at ha
    | some H2 =>
     simp [hst] at ha; obtain ⟨rfl,rfl⟩ := ha
     cases hs with
     | sliceU _ _ _ _ c' l hb hnc hcc htt =>
      obtain ⟨w',h1,h2,h3⟩ := astoreAt_sim (P := E.P) h hb hnr hst
      exact ⟨_,w',ι,run_append_in (ty := ty) ht2 hu2 hdu hsz hlen hnew (by omega) (by simp only [add_addr,Nat.add_assoc]; exact h1),.sliceU _ _ _ _ c' l hb hroom hcc htt,h2,h3⟩
     | sliceX _ _ _ _ l hb hnc htt =>
      obtain ⟨w',h1,h2,h3⟩ := astoreAt_sim (P := E.P) h hb hnr hst
      exact ⟨_,w',ι,run_append_in (ty := ty) ht2 hu2 hdu hsz hlen hnew (by omega) (by simp only [add_addr,Nat.add_assoc]; exact h1),.sliceX _ _ _ _ l hb hroom htt,h2,h3⟩
     | sliceUZ => omega
     | sliceXZ => omega
  ·-- none
   rename_i hroom
   split at ha
   rotate_left
   ·simp at ha
   rename_i hc
   simp only [Bool.and_eq_true,decide_eq_true_eq] at hc
   obtain ⟨hfit,hone⟩ := hc
   split at ha
   ·-- it must grow
    cases htk : takeCells H b o (n * j.size) with
    | none => simp [htk] at ha
    | some old =>
     simp [htk] at ha; obtain ⟨rfl,rfl⟩ := ha
     cases hs with
     | sliceX _ _ _ _ l hb hnc htt =>
      obtain ⟨old',h1,h2,h3⟩ := takeCells_sim (P := E.P) hdrew hb htk
      exact grow (H0 := H) rfl (by simp only [Builtin.firstCells]; exact h1) h2 h3 hroom hfit h hfree (Step.refl _ _ _) (.inr trivial)
     | sliceXZ _ _ a' l hb =>
      obtain ⟨_,_,_,_,_,rfl⟩ := takeCells_parts htk
      have := grow (s' := .slice (some a') 0 0) (H0 := H) (sLen := 0) (old := []) (old' := []) rfl (by simp only [Builtin.firstCells,Nat.zero_mul]; rfl) .nil (by simp) hroom hfit h hfree (Step.refl _ _ _) (.inr trivial)
      rw [Nat.zero_mul,List.take_zero]
      exact this
   ·-- it may grow
    split at ha
    rotate_left
    ·simp at ha
    rename_i cs sz hg
    split at ha
    rotate_left
    ·simp at ha
    rename_i hend
    obtain ⟨rfl,hend⟩ := hend
    simp at ha; obtain ⟨rfl,rfl⟩ := ha
    have hwrt : wrt H b = true := by simp [wrt,hg]
    have key : ∀ {base : Option Addr} {sCap : Nat} {old' : List Value} {l : Loc},ι b = some l → (Builtin.firstCells j.size n (.slice base n sCap)).run E.P w.drew = .ok ⟨old'⟩ w.drew → RVs ι (cs.drop o) old' → ¬ n + k ≤ sCap →
      ∃ v' w' ι',(Builtin.append_ #[t,u] ty #[.slice base n sCap,x']).run E.P w = .ok v' w' ∧ RV ι' (.slice (some ⟨H.size,0,none⟩) (n + k) (n + k)) v' ∧ Rel E ι' ((H.set b .dead).alloc (.cells (cs.drop o ++ new) true j.size)) w' ∧
       Step ι H w ι' ((H.set b .dead).alloc (.cells (cs.drop o ++ new) true j.size)) w' := by
     intro base sCap old' l hb hold hor hno
     obtain ⟨hk1,hk2⟩ := h.kill hb
     have := grow (s' := .slice base n sCap) (H0 := H.set b .dead) rfl hold hor (by simp; omega) hno hfit hk1 hfree hk2 (.inr trivial)
     exact this
    cases hs with
    | sliceUZ _ _ a' l hb =>
     have hd : cs.drop o = [] := by rw [List.drop_eq_nil_iff]; omega
     have := key (base := some a') (sCap := 0) (old' := []) hb (by simp only [Builtin.firstCells,Nat.zero_mul]; rfl) (by rw [hd]; exact .nil) hroom
     exact this
    | sliceU _ _ _ _ c' l hb hnc hcc htt =>
     have htk : takeCells H b o (n * j.size) = some (cs.drop o) := by
      simp only [takeCells,hg]
      rw [if_pos (by omega),List.take_of_length_le (by simp; omega)]
     by_cases hin : n + k ≤ c'
     ·-- in place
      obtain ⟨C,tyc,fz,h1,h2,h3,h4,h5,h6,h7⟩ := h.cells _ _ _ _ _ hb hg
      have htt' : l.base + o + c' * j.size ≤ l.tot := by
       rcases htt with h8 | h8
       ·rw [h3] at h8; exact absurd h8 hj0
       ·rw [h3] at h8; exact h8
      have hmul : (n + k) * j.size ≤ c' * j.size := Nat.mul_le_mul_right _ hin
      rw [Nat.add_mul] at hmul
      have hst := run_storeCells (P := E.P) (off := l.base + o + n * j.size) new' 0 C w h1 (by omega) (all_oneCell hnr hone) (by rw [h2]; exact h6 rfl)
      rw [Nat.add_zero] at hst
      have hcsz : (asplice C (l.base + o + n * j.size) new').size = l.tot := by rw [asplice_size _ _ _ (by omega),h2]
      obtain ⟨hR,hS⟩ := h.consume hfree (cs := cs.drop o ++ new) (sz := j.size) (base := l.base + o) (C := asplice C (l.base + o + n * j.size) new') (ty := tyc) (fz := fz) hb hwrt
       (by
         intro i v hv
         by_cases hi : i < (cs.drop o).length
         ·rw [List.getElem?_append_left hi,List.getElem?_drop] at hv
          obtain ⟨v',h8,h9⟩ := h5 _ _ hv
          simp at hi
          refine ⟨v',?_,h9⟩
          rw [asplice_out _ _ _ (by omega) _ (by omega)]
          rw [show l.base + o + i = l.base + (o + i) by omega]; exact h8
         ·rw [List.getElem?_append_right (by omega)] at hv
          obtain ⟨v',h8,h9⟩ := hnr.get _ _ hv
          refine ⟨v',?_,h9⟩
          have hlt : i - (cs.drop o).length < new'.length := by
           rcases Nat.lt_or_ge (i - (cs.drop o).length) new'.length with h10 | h10
           ·exact h10
           ·rw [List.getElem?_eq_none h10] at h8; simp at h8
          have e1 := asplice_in C (l.base + o + n * j.size) new' (by omega) _ hlt
          simp at hi
          have e2 : (cs.drop o).length = n * j.size := by simp; omega
          rw [e2] at e1 h8
          rw [show l.base + o + n * j.size + (i - n * j.size) = l.base + o + i by omega] at e1
          rw [e1]; exact h8)
       (by rw [hcsz]; simp; omega) (by rw [hcsz]; exact h6 rfl) hj0 (by omega)
       (fun o' ho' C' ty' fz' hC => by
         rw [h1] at hC; injection hC with hC; injection hC with hC _ _; subst hC
         exact asplice_out _ _ _ (by omega) _ (.inl (by omega)))
      refine ⟨_,_,_,run_append_in (ty := ty) ht2 hu2 hdu hsz hlen hnew hin (by simp only [add_addr]; exact hst),?_,hR,hS⟩
      refine .sliceU H.size 0 _ _ c' _ (Emb.with_same _ _ _) (Nat.le_refl _) hin (.inr ?_)
      show l.base + o + 0 + c' * j.size ≤ _
      rw [hcsz]; omega
     ·obtain ⟨old',h1,h2,h3⟩ := takeCells_sim (P := E.P) hdrew hb htk
      exact key hb (by simp only [Builtin.firstCells]; exact h1) h2 hin
   ·simp at ha
 ·rename_i xs md sz n
  split at ha
  rotate_left
  ·cases ha
  rename_i hszj
  subst hszj
  split at ha
  ·rename_i hk0
   subst hk0
   injection ha with ha; injection ha with e1 e2; subst e1; subst e2
   have hn0 : new = [] := by cases new with | nil => rfl | cons _ _ => simp at hnl
   subst hn0
   cases hnr
   cases hs with
   | dsl _ _ _ _ B o c' hh hl hc g1 g2 => exact ⟨_,w,ι,run_append_in (ty := ty) ht2 hu2 hdu hsz hlen hnew (by omega) rfl,.dsl _ _ _ _ B o c' hh hl hc g1 g2,h,Step.refl _ _ _⟩
   | dslZ _ _ a' hm => exact ⟨_,w,ι,run_append_in (ty := ty) ht2 hu2 hdu hsz hlen hnew (by omega) rfl,.dslZ _ _ _ hm,h,Step.refl _ _ _⟩
  ·rename_i hk0
   split at ha
   rotate_left
   ·cases ha
   rename_i hc
   simp only [Bool.and_eq_true,decide_eq_true_eq] at hc
   obtain ⟨⟨hfit,hone⟩,hfz⟩ := hc
   split at ha
   ·cases ha
   ·-- it must grow
    injection ha with ha
    have e1 : v = (deepNew H j.size (n + k) (xs ++ bareL new)).1 := by rw [ha]
    have e2 : H' = (deepNew H j.size (n + k) (xs ++ bareL new)).2 := by rw [ha]
    subst e1; subst e2
    cases hs with
    | dsl _ _ _ _ B o c' hh hl hcc g1 g2 =>
     have hc' := g1 rfl
     obtain ⟨_,old',hold,hor,_⟩ := srcCells_sim (size := j.size) (k := n) (vs := xs) hdrew (RV.dsl 1 j.size n xs B o c' hh hl hcc g1 g2) (by simp [srcCells])
     exact growD rfl hold hor hl (by omega) hfit h hfree (Step.refl _ _ _) (holds_frz h hh) hfz
    | dslZ _ _ a' hm =>
     exact growD (old := []) (old' := []) rfl (by simp only [Builtin.firstCells,Nat.zero_mul]; rfl) .nil (by simp) (by omega) hfit h hfree (Step.refl _ _ _) rfl hfz
   ·-- it may grow
    rename_i tk
    split at ha
    rotate_left
    ·cases ha
    rename_i sz' hg
    split at ha
    rotate_left
    ·cases ha
    rename_i hszt
    subst hszt
    injection ha with ha
    have e1 : v = (deepNew (H.set tk .dead) j.size (n + k) (xs ++ bareL new)).1 := by rw [ha]
    have e2 : H' = (deepNew (H.set tk .dead) j.size (n + k) (xs ++ bareL new)).2 := by rw [ha]
    subst e1; subst e2
    cases hs with
    | dslZ _ _ a' hm => omega
    | dsl _ _ _ _ B o c' hh hl hcc g1 g2 =>
     obtain ⟨lt,hlt,b1,b2,b3,b4⟩ := g2 tk rfl
     obtain ⟨_,old',hold,hor,_⟩ := srcCells_sim (size := j.size) (k := n) (vs := xs) hdrew (RV.dsl (tk + 2) j.size n xs B o c' hh hl hcc g1 g2) (by simp [srcCells])
     by_cases hin : n + k ≤ c'
     ·-- in place
      have hwrt : wrt H tk = true := by simp [wrt,hg]
      obtain ⟨C,tyc,fz,h1,h2,h3,h4,h5,h6,h7⟩ := h.cells _ _ _ _ _ hlt hg
      subst b1
      have hmul : (n + k) * j.size ≤ c' * j.size := Nat.mul_le_mul_right _ hin
      rw [Nat.add_mul] at hmul
      have hst := run_storeCells (P := E.P) (off := o + n * j.size) new' 0 C w h1 (by omega) (all_oneCell hnr hone) (by rw [h2]; exact h6 rfl)
      rw [Nat.add_zero] at hst
      have hcsz : (asplice C (o + n * j.size) new').size = lt.tot := by rw [asplice_size _ _ _ (by omega),h2]
      obtain ⟨hR,hS⟩ := h.consume hfree (cs := []) (sz := j.size) (base := o + n * j.size + k * j.size) (C := asplice C (o + n * j.size) new') (ty := tyc) (fz := fz) hlt hwrt
       (fun i v hv => by simp at hv) (by rw [hcsz]; simp; omega) (by rw [hcsz]; exact h6 rfl) hj0 (by omega)
       (fun o' ho' C' ty' fz' hC => by
         rw [h1] at hC; injection hC with hC; injection hC with hC _ _; subst hC
         exact asplice_out _ _ _ (by omega) _ (.inl (by omega)))
      have hbl : (bareL new).length = k * j.size := by rw [hnr.bareL.length,← hnr.length,hnl]
      have hcA : CellsAt ι (asplice C (o + n * j.size) new') (o + n * j.size) (bareL new) := fun i v hv => by
       obtain ⟨v',h8,h9⟩ := hnr.bareL.get _ _ hv
       refine ⟨v',?_,h9⟩
       have hlt2 : i < new'.length := by
        rcases Nat.lt_or_ge i new'.length with h10 | h10
        ·exact h10
        ·rw [List.getElem?_eq_none h10] at h8; simp at h8
       rw [asplice_in C (o + n * j.size) new' (by omega) _ hlt2]; exact h8
      have hR2 := hR.freeze (B := lt.blk) (o := o + n * j.size) (cs := bareL new) (putBlk_get _ _ _ (h.dom _ _ hlt)) (hcA.mono hS.ext) hfz
       (fun b l hb hw hblk => by
         by_cases e : b = H.size
         ·subst e; rw [Emb.with_same] at hb; injection hb with hb; subst hb
          rw [hbl]; exact Nat.le_refl _
         ·rw [Emb.with_ne _ _ e] at hb
          have hw' : wrt (H.set tk .dead) b = true := by
           unfold wrt at hw ⊢; rw [AHeap.get_alloc_ne _ _ (by simpa [AHeap.size_set] using Ne.symm e)] at hw; exact hw
          obtain ⟨hne,hw2⟩ := wrt_set_dead hw'
          exact absurd hblk (h.inj _ _ _ _ hb hlt hne hw2 (by simp [live,hg])))
      refine ⟨_,_,_,run_append_in (ty := ty) ht2 hu2 hdu hsz hlen hnew hin (by simp only [add_addr]; exact hst),?_,hR2,hS.puts (.inr ⟨tk,lt,hlt,rfl,hwrt⟩)⟩
      have hle : ι.le _ := hS.ext.trans (Emb.put_le _ lt.blk (o + n * j.size) (bareL new))
      refine .dsl (H.size + 2) j.size (n + k) _ lt.blk o c' ((hh.mono hle).append (by rw [hl]; exact Emb.put_holds _ _ _ _)) (by rw [List.length_append,hl,hbl,Nat.add_mul]) hin (fun e => by omega) (fun t e => ?_)
      obtain rfl : t = H.size := by omega
      exact ⟨_,Emb.with_same _ _ _,rfl,by simp [Nat.add_mul,Nat.add_assoc],rfl,by rw [hcsz]; exact b4⟩
     ·obtain ⟨hk1,hk2⟩ := h.kill hlt
      exact growD (H0 := H.set tk .dead) rfl hold hor hl hin hfit hk1 hfree hk2 (holds_frz h hh) hfz
 ·simp at ha

end
end AbsYtkhcbbpfchgemaaDoor

/-
 Operations: makes,maps,conversions,the other builtin functions.
-/
namespace AbsYtkhcbbpfchgemaaDoor
set_option linter.unusedVariables false
set_option linter.unusedSimpArgs false
set_option linter.unusedSectionVars false
open Go

section
variable {E : Env} {ι : Emb} {H H' : AHeap} {w : World}

theorem wrap_in {n : Int} (h0 : 0 ≤ n) (h1 : n ≤ 9223372036854775807) : IntKind.i64.wrap n = n := IntWalk.i64_in n (by omega)

theorem amakeSlice_sim (hE : TyOk E) (h : Rel E ι H w) (hfree : ι H.size = none) {t : Nat} {a a' b b' v : Value} (ha : RV ι a a') (hb : RV ι b b') (hs : amakeSlice E H t a b = some (v,H')) :
  ∃ v' w' ι',(Instr.makeSlice t a' b').run E.P w = .ok v' w' ∧ RV ι' v v' ∧ Rel E ι' H' w' ∧ Step ι H w ι' H' w' := by
 unfold amakeSlice at hs
 split at hs
 rotate_left
 ·simp at hs
 rename_i e _ _ _ _ k l k' c ht
 cases ha; cases hb
 obtain ⟨inft,d,ht1,ht2,ht3,ht4,ht5,ht6,ht7⟩ := ti_parts hE ht
 obtain rfl := tk_slice ht3
 split at hs
 rotate_left
 ·simp at hs
 rename_i j z hj hz
 obtain ⟨j',zs,hj',hzs,rfl⟩ := azero_of hz
 rw [hj] at hj'; simp at hj'; subst hj'
 obtain ⟨infe,de,he1,he2,he3,he4,he5,he6,he7⟩ := ti_parts hE hj
 obtain ⟨zv,hz1,hz2,hz9⟩ := run_zero hE hj w hzs
 have hzc : zv.cells = ⟨zs.map ZV.val⟩ := by rw [← hz2]
 split at hs
 rotate_left
 ·simp at hs
 rename_i hcond
 obtain ⟨h0,h1,h2,h3,h4,h5⟩ := hcond
 simp at hs
 obtain ⟨rfl,rfl⟩ := hs
 have hl := wrap_in h0 (by omega)
 have hc := wrap_in (n := c) (by omega) h2
 have hr := range_reps (⟨zs.map ZV.val⟩ : Array Value) c.toNat j.size (by simpa using h5) h4
 have hlen : (reps (zs.map ZV.val) c.toNat).length = c.toNat * j.size := by rw [reps_length,h5]
 obtain ⟨hR,hS⟩ := h.alloc hfree (cs := reps (zs.map ZV.val) c.toNat) (wr := true) (sz := j.size) (C := ⟨reps (zs.map ZV.val) c.toNat⟩) (ty := e) (fz := (0,0))
  (fun i v hv => by
    obtain ⟨v',h8,h9⟩ := ((RVs.zeros (ι := ι) zs).reps c.toNat).get i v hv
    exact ⟨v',by simpa using h8,h9⟩) (by simp) (fun _ off _ hf => by simp at hf) (fun _ => by simp)
 refine ⟨.slice (some ⟨w.heap.size,0,none⟩) l.toNat c.toNat,_,_,?_,.sliceX H.size 0 _ _ ⟨w.heap.size,0,j.size,_⟩ (Emb.with_same _ _ _) (by omega) (.inr (by simp; rw [hlen]; omega)),hR,hS⟩
 have hinf : (typeInfo e).run E.P w = .ok infe w := by simp [typeInfo,he1]
 have hb1 : (infe.bytes : Int) * c ≤ 2 ^ 48 := by rw [he5]; omega
 have htl : (decide (c < 0) || decide ((infe.bytes : Int) * c > 2 ^ 48) || decide (l < 0) || decide (l > c)) = false := by
  simp; omega
 simp only [Instr.makeSlice,Sem.run_bind,run_und' w ht2,Result.andThen_ok,asInt,asIntOf,Sem.run_pure,hinf,hl,hc]
 rw [if_neg (by rw [htl]; simp)]
 simp only [run_askRoom,Result.andThen_ok,run_sizeOf' hE hj,Sem.run_bind]
 by_cases hn : c.toNat * j.size = 0
 ·have hc0 : c.toNat = 0 := by
   rcases Nat.mul_eq_zero.1 hn with h | h
   ·exact h
   ·exact absurd h h4
  have hr0 : ∀ z : Array Value,(Array.range (c.toNat * j.size)).map (fun k => z[k % z.size]!) = ⟨[]⟩ := by intro z; simp [hn]
  have hrp : reps (zs.map ZV.val) c.toNat = [] := by rw [hc0]; rfl
  rw [if_pos hn]
  simp only [Sem.run_pure,Result.andThen_ok,hr0,newRow,Sem.run_bind,Go.run_newObj,hrp]
  rfl
 ·rw [if_neg hn]
  simp only [Sem.run_bind,hz1,Result.andThen_ok,Sem.run_pure,hzc,hr,newRow,Go.run_newObj]
  rfl

theorem keyKind_of (hE : TyOk E) {kt : Nat} {k k' : Value} {d : TypeDesc} (hk : RV ι k k') (h : keyKind E kt k = some d) :
  k' = k ∧ E.P.underlying kt = some d ∧ ((∃ q q' n,d = .int q ∧ k = .int q' n) ∨ (d = .string ∧ ∃ s,k = .string s)) := by
 unfold keyKind at h
 split at h
 ·rename_i q _ _ _ _ q' n ht
  simp at h; subst h
  cases hk
  obtain ⟨inft,d,ht1,ht2,ht3,ht4,ht5,ht6,ht7⟩ := ti_parts hE ht
  obtain rfl := tk_int ht3
  exact ⟨rfl,ht2,.inl ⟨q,q',n,rfl,rfl⟩⟩
 ·rename_i _ _ _ _ s ht
  simp at h; subst h
  cases hk
  obtain ⟨inft,d,ht1,ht2,ht3,ht4,ht5,ht6,ht7⟩ := ti_parts hE ht
  obtain rfl := tk_string ht3
  exact ⟨rfl,ht2,.inr ⟨rfl,s,rfl⟩⟩
 ·simp at h

theorem checkKey_plain' {P : Program} {kt : Nat} {k : Value} {d : TypeDesc} (hd : P.underlying kt = some d) (hk : (∃ q q' n,d = .int q ∧ k = .int q' n) ∨ (d = .string ∧ ∃ s,k = .string s)) (emp : Bool) (w : World) (n : Nat) :
  (Instr.checkKey emp (n + 1) kt k).run P w = .ok () w := by
 rcases hk with ⟨q,q',n,rfl,rfl⟩ | ⟨rfl,s,rfl⟩
 ·simp only [Instr.checkKey,Sem.run_bind,run_und' w hd,Result.andThen_ok,Sem.run_pure]
 ·simp only [Instr.checkKey,Sem.run_bind,run_und' w hd,Result.andThen_ok,Sem.run_pure]
theorem checkKey_plain {P : Program} {kt : Nat} {k : Value} {d : TypeDesc} (hd : P.underlying kt = some d) (hk : (∃ q q' n,d = .int q ∧ k = .int q' n) ∨ (d = .string ∧ ∃ s,k = .string s)) (emp : Bool) (w : World) :
  (Instr.checkKey emp 10000 kt k).run P w = .ok () w := checkKey_plain' hd hk emp w 9999

theorem findNow_sim {d : TypeDesc} {k : Value} {es es' : List MapEntry} (h : REs ι es es') : ∀ (i : Nat) (r : Option (Nat × Value)),Instr.findNow d k es i = some r →
  match r with
  | none => Instr.findNow d k es' i = some none
  | some (n,v) => ∃ v',Instr.findNow d k es' i = some (some (n,v')) ∧ RV ι v v' := by
 induction h with
 | nil => intro i r hr; simp [Instr.findNow] at hr; subst hr; rfl
 | cons e e' es es' hk hb hv hs ih =>
  intro i r hr
  simp only [Instr.findNow] at hr ⊢
  rw [hk]
  cases hsn : Instr.sameNow d k e.key with
  | none => simp [hsn] at hr
  | some b =>
   cases b with
   | true => simp [hsn] at hr; subst hr; exact ⟨_,rfl,hv⟩
   | false => simp only [hsn] at hr ⊢; exact ih (i + 1) r hr

theorem findNow_key {d : TypeDesc} {k : Value} {es : List MapEntry} : ∀ (i n : Nat) (v : Value),Instr.findNow d k es i = some (some (n,v)) → ∃ e,es[n - i]? = some e ∧ i ≤ n ∧ Instr.sameNow d k e.key = some true := by
 induction es with
 | nil => intro i n v h; simp [Instr.findNow] at h
 | cons e es ih =>
  intro i n v h
  simp only [Instr.findNow] at h
  cases hsn : Instr.sameNow d k e.key with
  | none => simp [hsn] at h
  | some b =>
   cases b with
   | true => simp [hsn] at h; obtain ⟨rfl,_⟩ := h; exact ⟨e,by simp,Nat.le_refl _,hsn⟩
   | false =>
    simp only [hsn] at h
    obtain ⟨e2,h1,h2,h3⟩ := ih (i + 1) n v h
    refine ⟨e2,?_,by omega,h3⟩
    rw [show n - i = (n - (i + 1)) + 1 by omega]; simpa using h1

theorem sameNow_same {d : TypeDesc} {k k2 : Value} (h : Instr.sameNow d k k2 = some true) : Instr.sameBits 10000 k2 k = true := by
 unfold Instr.sameNow at h
 split at h
 ·split at h
  ·rename_i hk
   injection h with h
   have := eq_of_beq h
   subst hk; subst this
   show (_ == _ && _ == _) = true
   simp
  ·cases h
 ·rename_i a b
  injection h with h
  show (b == a) = true
  rw [beq_toListBytes] at h ⊢
  rw [eq_of_beq h]; simp
 ·injection h with h
  have := eq_of_beq h
  subst this
  show (_ == _) = true
  simp
 ·cases h

theorem run_findKey {P : Program} {kt : Nat} {d : TypeDesc} {k : Value} {es : List MapEntry} {r : Option (Nat × Value)} (hd : P.underlying kt = some d) (h : Instr.findNow d k es 0 = some r) (w : World) :
  (Instr.findKey kt k es).run P w = .ok r w := by
 simp only [Instr.findKey,Sem.run_bind,run_und' w hd,Result.andThen_ok,h,Sem.run_pure]

theorem run_getObj {P : Program} {r : Nat} {es : Array MapEntry} {c : Nat} (h : w.heap[r]? = some (.map es c)) : (getObj r).run P w = .ok (.map es c) w := by
 simp [getObj,Sem.run,h]
theorem run_setObj {P : Program} {r : Nat} {es : Array MapEntry} {c : Nat} (h : w.heap[r]? = some (.map es c)) (o : Obj) : (setObj r o).run P w = .ok () (putBlk w r o) := by
 simp [setObj,Sem.run,h,putBlk]

theorem REs.length {es es' : List MapEntry} (h : REs ι es es') : es.length = es'.length := by
 induction h with
 | nil => rfl
 | cons e e' es es' _ _ _ _ ih => simp [ih]
theorem REs.modify {es es' : List MapEntry} (h : REs ι es es') (i : Nat) {k v v' : Value} (hv : RV ι v v') :
  REs ι (es.modify i fun e => { e with key := k,val := v }) (es'.modify i fun e => { e with key := k,val := v' }) := by
 induction h generalizing i with
 | nil => simp; exact .nil
 | cons e e' es es' hk hb hv0 hs ih =>
  cases i with
  | zero => simp; exact .cons _ _ _ _ rfl hb hv hs
  | succ i => simp; exact .cons _ _ _ _ hk hb hv0 (ih i)
theorem REs.snoc {es es' : List MapEntry} (h : REs ι es es') {k v v' : Value} (c : Nat) (hv : RV ι v v') : REs ι (es ++ [⟨k,v,c⟩]) (es' ++ [⟨k,v',c⟩]) := by
 induction h with
 | nil => exact .cons _ _ _ _ rfl rfl hv .nil
 | cons e e' es es' hk hb hv0 hs ih => exact .cons _ _ _ _ hk hb hv0 ih
theorem REs.erase {es es' : List MapEntry} (h : REs ι es es') (i : Nat) : REs ι (es.eraseIdx i) (es'.eraseIdx i) := by
 induction h generalizing i with
 | nil => exact .nil
 | cons e e' es es' hk hb hv0 hs ih =>
  cases i with
  | zero => simp; exact hs
  | succ i => simp; exact .cons _ _ _ _ hk hb hv0 (ih i)

theorem luRes_sim {a a' : Value} (ok b : Bool) (ha : RV ι a a') : RV ι (luRes ok a b) (if ok = true then .tuple #[a',.bool b] else a') := by
 cases ok
 ·exact ha
 ·exact .tuple _ _ (.cons _ _ _ _ ha (.cons _ _ _ _ (.bool b) .nil))

theorem alookup_sim (hE : TyOk E) (h : Rel E ι H w) {t : Nat} {m m' k k' v : Value} {ok : Bool} (hm : RV ι m m') (hk : RV ι k k') (hs : alookup E H t m k ok = some v) :
  ∃ v',(Instr.lookup t m' k' ok).run E.P w = .ok v' w ∧ RV ι v v' := by
 unfold alookup at hs
 split at hs
 rotate_left
 ·cases hs
 rename_i kt et _ _ _ _ ht
 obtain ⟨inft,d,ht1,ht2,ht3,ht4,ht5,ht6,ht7⟩ := ti_parts hE ht
 obtain rfl := tk_map ht3
 split at hs
 rotate_left
 ·cases hs
 rename_i dk zv hkk hz
 obtain ⟨rfl,hkd,hkv⟩ := keyKind_of hE hk hkk
 obtain ⟨zv',hz1,hz2⟩ := azeroV_sim hE (ι := ι) hz w
 split at hs
 ·cases hm
  injection hs with hs; subst hs
  refine ⟨_,?_,luRes_sim ok false hz2⟩
  simp only [Instr.lookup,Sem.run_bind,run_und' w ht2,Result.andThen_ok,Sem.run_pure,checkKey_plain hkd hkv,run_findKey hkd (es := []) (r := none) rfl,hz1]
 ·rename_i r
  cases hm with | map _ l hb =>
  split at hs
  rotate_left
  ·cases hs
  rename_i es clk hg
  obtain ⟨es',h1,h2⟩ := h.maps _ _ _ _ hb hg
  split at hs
  ·rename_i n u hf
   injection hs with hs; subst hs
   obtain ⟨u',h3,h4⟩ := findNow_sim h2 0 _ hf
   refine ⟨_,?_,luRes_sim ok true h4⟩
   simp only [Instr.lookup,Sem.run_bind,run_und' w ht2,Result.andThen_ok,Sem.run_pure,run_getObj h1,checkKey_plain hkd hkv,run_findKey hkd h3]
  ·rename_i hf
   injection hs with hs; subst hs
   have h3 := findNow_sim h2 0 _ hf
   refine ⟨_,?_,luRes_sim ok false hz2⟩
   simp only [Instr.lookup,Sem.run_bind,run_und' w ht2,Result.andThen_ok,Sem.run_pure,run_getObj h1,checkKey_plain hkd hkv,run_findKey hkd h3,hz1]
  ·cases hs
 ·cases hs

theorem amapUpdate_sim (hE : TyOk E) (h : Rel E ι H w) {t : Nat} {m m' k k' v v' : Value} (hm : RV ι m m') (hk : RV ι k k') (hv : RV ι v v') (hs : amapUpdate E H t m k v = some H') :
  ∃ w',(Instr.mapUpdate t m' k' v').run E.P w = .ok () w' ∧ Rel E ι H' w' ∧ Step ι H w ι H' w' := by
 unfold amapUpdate at hs
 split at hs
 rotate_left
 ·simp at hs
 rename_i kt et _ _ _ _ r ht
 obtain ⟨inft,d,ht1,ht2,ht3,ht4,ht5,ht6,ht7⟩ := ti_parts hE ht
 obtain rfl := tk_map ht3
 cases hm with | map _ l hb =>
 split at hs
 rotate_left
 ·simp at hs
 rename_i dk es clk hkk hg
 obtain ⟨rfl,hkd,hkv⟩ := keyKind_of hE hk hkk
 obtain ⟨es',h1,h2⟩ := h.maps _ _ _ _ hb hg
 have hw : wrt H r = true := by simp [wrt,hg]
 split at hs
 ·rename_i n u hf
  simp at hs; subst hs
  obtain ⟨u',h3,h4⟩ := findNow_sim h2 0 _ hf
  obtain ⟨e,h5,_,h6⟩ := findNow_key 0 n u' h3
  have hkey : (((es'[n]?).map (·.key)).getD k') = e.key := by
   have : es'[n]? = some e := by rw [← Array.getElem?_toList]; simpa using h5
   rw [this]; rfl
  have hstay : (Instr.keyThatStays e.key k').run E.P w = .ok k' w := by
   simp only [Instr.keyThatStays,sameNow_same h6,if_true,Sem.run_pure]
  refine ⟨_,?_,h.put (O := .map (es'.modify n fun e => { e with key := k',val := v' }) clk) hb hw (fun _ _ => trivial) ?_ ?_ (fun _ _ _ _ _ _ _ hC _ => by rw [h1] at hC; cases hC)⟩
  ·simp only [Instr.mapUpdate,Sem.run_bind,run_und' w ht2,Result.andThen_ok,run_getObj h1,checkKey_plain hkd hkv,run_findKey hkd h3,hkey,hstay]
   rw [run_setObj h1]
  ·intro cs wr sz he; simp at he
  ·intro es2 clk2 he
   simp at he; obtain ⟨rfl,rfl⟩ := he
   exact ⟨_,rfl,by simpa using h2.modify n hv⟩
 ·rename_i hf
  simp at hs; subst hs
  have h3 := findNow_sim h2 0 _ hf
  refine ⟨_,?_,h.put (O := .map (es'.push { key := k',val := v',born := clk }) (clk + 1)) hb hw (fun _ _ => trivial) ?_ ?_ (fun _ _ _ _ _ _ _ hC _ => by rw [h1] at hC; cases hC)⟩
  ·simp only [Instr.mapUpdate,Sem.run_bind,run_und' w ht2,Result.andThen_ok,run_getObj h1,checkKey_plain hkd hkv,run_findKey hkd h3]
   rw [run_setObj h1]
  ·intro cs wr sz he; simp at he
  ·intro es2 clk2 he
   simp at he; obtain ⟨rfl,rfl⟩ := he
   exact ⟨_,rfl,by simpa using h2.snoc clk hv⟩
 ·simp at hs

theorem adelete_sim (hE : TyOk E) (h : Rel E ι H w) {t : Nat} {ts : List Nat} {ty : Nat} {m m' k k' : Value} (hm : RV ι m m') (hk : RV ι k k') (hs : adelete E H t m k = some H') :
  ∃ w',(Builtin.delete_ (t :: ts).toArray ty #[m',k']).run E.P w = .ok (.tuple #[]) w' ∧ Rel E ι H' w' ∧ Step ι H w ι H' w' := by
 unfold adelete at hs
 split at hs
 rotate_left
 ·simp at hs
 rename_i kt et _ _ _ _ ht
 obtain ⟨inft,d,ht1,ht2,ht3,ht4,ht5,ht6,ht7⟩ := ti_parts hE ht
 obtain rfl := tk_map ht3
 split at hs
 ·rename_i dk hkk
  obtain ⟨rfl,hkd,hkv⟩ := keyKind_of hE hk hkk
  cases hm
  simp at hs; subst hs
  exact ⟨w,by simp [Builtin.delete_,run_und' w ht2,checkKey_plain hkd hkv],h,Step.refl _ _ _⟩
 ·rename_i dk r hkk
  obtain ⟨rfl,hkd,hkv⟩ := keyKind_of hE hk hkk
  cases hm with | map _ l hb =>
  split at hs
  rotate_left
  ·simp at hs
  rename_i es clk hg
  obtain ⟨es',h1,h2⟩ := h.maps _ _ _ _ hb hg
  have hw : wrt H r = true := by simp [wrt,hg]
  split at hs
  ·rename_i n u hf
   simp at hs; subst hs
   obtain ⟨u',h3,h4⟩ := findNow_sim h2 0 _ hf
   refine ⟨_,?_,h.put (O := .map (es'.eraseIdxIfInBounds n) clk) hb hw (fun _ _ => trivial) ?_ ?_ (fun _ _ _ _ _ _ _ hC _ => by rw [h1] at hC; cases hC)⟩
   ·simp [Builtin.delete_,run_und' w ht2,run_getObj h1,checkKey_plain hkd hkv,run_findKey hkd h3,run_setObj h1]
   ·intro cs wr sz he; simp at he
   ·intro es2 clk2 he
    simp at he; obtain ⟨rfl,rfl⟩ := he
    exact ⟨_,rfl,by simpa using h2.erase n⟩
  ·rename_i hf
   simp at hs; subst hs
   have h3 := findNow_sim h2 0 _ hf
   refine ⟨w,?_,h,Step.refl _ _ _⟩
   simp [Builtin.delete_,run_und' w ht2,run_getObj h1,checkKey_plain hkd hkv,run_findKey hkd h3,run_setObj h1,putBlk_self _ _ _ h1]
  ·simp at hs
 ·simp at hs

end
end AbsYtkhcbbpfchgemaaDoor

/-
 Operations: arithmetic and comparisons,the remaining builtin functions,conversions.
-/
namespace AbsYtkhcbbpfchgemaaDoor
set_option linter.unusedVariables false
set_option linter.unusedSimpArgs false
set_option linter.unusedSectionVars false
open Go

section
variable {E : Env} {ι : Emb} {H H' : AHeap} {w : World}

theorem binOp_eql {P : Program} {t : Nat} {x y : Value} (hx : nonNum x = true) (hy : nonNum y = true) : (binOp .eql t x y).run P w = ((Op.equal t x y).run P w).andThen fun b w' => .ok (.bool b) w' := by
 cases x <;> simp [nonNum] at hx <;> cases y <;> simp [nonNum] at hy <;> simp only [binOp,Sem.run_bind,Sem.run_pure]
theorem binOp_neq {P : Program} {t : Nat} {x y : Value} (hx : nonNum x = true) (hy : nonNum y = true) : (binOp .neq t x y).run P w = ((Op.equal t x y).run P w).andThen fun b w' => .ok (.bool (!b)) w' := by
 cases x <;> simp [nonNum] at hx <;> cases y <;> simp [nonNum] at hy <;> simp only [binOp,Sem.run_bind,Sem.run_pure]
theorem RV.nonNum {v v' : Value} (h : RV ι v v') (hn : AbsYtkhcbbpfchgemaaDoor.nonNum v = true) : AbsYtkhcbbpfchgemaaDoor.nonNum v' = true := by
 cases h <;> first | rfl | simp [AbsYtkhcbbpfchgemaaDoor.nonNum] at hn

theorem eqGuard_sim (hE : TyOk E) {op : BinOp} {t : Nat} {x y : Operand} {a a' b b' : Value} (ha : RV ι a a') (hb : RV ι b b') (hok : eqAsk E t (isConst x || isConst y) a b = true) :
  (eqGuard op t x y a' b').run E.P w = .ok () w := by
 unfold eqGuard
 have hsplit : ∀ (body : Sem Unit),body.run E.P w = .ok () w → (do
   if !(match op with | .eql | .neq => true | _ => false) then return
   body : Sem Unit).run E.P w = .ok () w := by
  intro body hb
  cases op <;> first | exact hb | rfl
 apply hsplit
 unfold eqAsk at hok
 split at hok
 ·cases ha; cases hb
  cases x <;> cases y <;> first | rfl | simp [isConst] at hok
 ·cases ha; cases hb
  split at hok
  rotate_left
  ·cases hok
  rename_i i ht
  obtain ⟨inft,d,ht1,ht2,ht3,ht4,ht5,ht6,ht7⟩ := ti_parts hE ht
  have := (ht7 hok).2
  simp [this]
 ·rename_i h1 h2
  cases ha <;> cases hb <;> first | rfl | exact (h1 rfl rfl).elim | exact (h2 _ _ rfl rfl).elim

theorem aint_sim {P : Program} {op : BinOp} {k : IntKind} {a b : Int} {v : Value} {t : Nat} (h : aint op k a b = some v) : (binOp op t (.int k a) (.int k b)).run P w = .ok v w ∧ RV ι v v := by
 unfold aint at h
 split at h <;> first
  | (injection h with h; subst h; refine ⟨?_,by constructor⟩; simp only [binOp,ne_eq,not_true_eq_false,if_false,Op.intArith,Op.intBits,Op.intCmp]; rfl)
  | (split at h
     ·cases h
     ·rename_i h0
      injection h with h; subst h; refine ⟨?_,by constructor⟩; simp only [binOp,ne_eq,not_true_eq_false,if_false,Op.intDiv,if_neg h0]; rfl)
  | cases h

theorem ashift_sim {P : Program} {left : Bool} {k k' : IntKind} {a b : Int} {v : Value} {t : Nat} (h : ashift left k a b = some v) :
  (binOp (if left then .shl else .shr) t (.int k a) (.int k' b)).run P w = .ok v w ∧ RV ι v v := by
 unfold ashift at h
 split at h
 ·cases h
 rename_i h0
 cases left
 ·simp at h; subst h
  exact ⟨by simp only [binOp,Op.shift,if_neg h0,Bool.false_eq_true,if_false]; rfl,.int _ _⟩
 ·simp at h; subst h
  exact ⟨by simp only [binOp,Op.shift,if_neg h0,if_true]; rfl,.int _ _⟩

theorem astr_sim {P : Program} {op : BinOp} {a b : ByteArray} {v : Value} {t : Nat} (h : astr op a b = some v) : (binOp op t (.string a) (.string b)).run P w = .ok v w ∧ RV ι v v := by
 unfold astr at h
 split at h <;> first
  | (injection h with h; subst h; exact ⟨rfl,by constructor⟩)
  | (split at h
     ·rename_i h0
      injection h with h; subst h
      refine ⟨?_,.string _⟩
      have : ¬ (((a.size + b.size : Nat) : Int) > IntKind.i64.max) := by
       have : IntKind.i64.max = 9223372036854775807 := by decide
       omega
      simp only [binOp,Op.stringOp,if_neg this]; rfl
     ·cases h)
  | cases h

theorem abin_sim (hE : TyOk E) (h : Rel E ι H w) {op : BinOp} {t : Nat} {x y : Operand} {a a' b b' v : Value} (ha : RV ι a a') (hb : RV ι b b') (hs : abin E H op t (isConst x || isConst y) a b = some v) :
  ∃ v',(do eqGuard op t x y a' b'; binOp op t a' b' : Sem Value).run E.P w = .ok v' w ∧ RV ι v v' := by
 unfold abin at hs
 split at hs
 ·rename_i k n k' m
  have hg := eqGuard_sim (w := w) (op := op) (t := t) (x := x) (y := y) hE ha hb (by simp [eqAsk])
  cases ha; cases hb
  simp only [Sem.run_bind,hg,Result.andThen_ok]
  split at hs
  ·obtain ⟨h1,h2⟩ := ashift_sim (ι := ι) (w := w) (P := E.P) (t := t) (k' := k') hs
   exact ⟨v,h1,h2⟩
  ·obtain ⟨h1,h2⟩ := ashift_sim (ι := ι) (w := w) (P := E.P) (t := t) (k' := k') hs
   exact ⟨v,h1,h2⟩
  ·split at hs
   ·rename_i hk
    subst hk
    obtain ⟨h1,h2⟩ := aint_sim (ι := ι) (w := w) (P := E.P) (t := t) hs
    exact ⟨v,h1,h2⟩
   ·cases hs
 ·have hg := eqGuard_sim (w := w) (op := op) (t := t) (x := x) (y := y) hE ha hb (by simp [eqAsk])
  cases ha; cases hb
  simp only [Sem.run_bind,hg,Result.andThen_ok]
  obtain ⟨h1,h2⟩ := astr_sim (ι := ι) (w := w) (P := E.P) (t := t) hs
  exact ⟨v,h1,h2⟩
 ·split at hs
  rotate_left
  ·cases hs
  rename_i hc
  simp only [Bool.and_eq_true] at hc
  obtain ⟨⟨hx,hy⟩,hask⟩ := hc
  have hg := eqGuard_sim (w := w) (op := op) (t := t) (x := x) (y := y) hE ha hb hask
  simp only [Sem.run_bind,hg,Result.andThen_ok]
  split at hs
  ·cases hq : aeq E H 64 t a b with
   | none => simp [hq] at hs
   | some r =>
    simp [hq] at hs; subst hs
    refine ⟨.bool r,?_,.bool r⟩
    rw [binOp_eql (ha.nonNum hx) (hb.nonNum hy)]
    have := aeq_sim hE h 64 10000 t a a' b b' r (by omega) ha hb hq
    rw [show Op.equal t a' b' = Op.equalIn 10000 t a' b' from rfl,this]; rfl
  ·cases hq : aeq E H 64 t a b with
   | none => simp [hq] at hs
   | some r =>
    simp [hq] at hs; subst hs
    refine ⟨.bool (!r),?_,.bool _⟩
    rw [binOp_neq (ha.nonNum hx) (hb.nonNum hy)]
    have := aeq_sim hE h 64 10000 t a a' b b' r (by omega) ha hb hq
    rw [show Op.equal t a' b' = Op.equalIn 10000 t a' b' from rfl,this]; rfl
  ·cases hs

theorem aun_sim {P : Program} {op : UnOp} {x x' v : Value} (hx : RV ι x x') (hs : aun op x = some v) : ∃ v',(Op.unary op x').run P w = .ok v' w ∧ RV ι v v' := by
 unfold aun at hs
 split at hs
 ·cases hx; injection hs with hs; subst hs; exact ⟨_,rfl,.int _ _⟩
 ·cases hx; injection hs with hs; subst hs; exact ⟨_,rfl,.int _ _⟩
 ·cases hx; injection hs with hs; subst hs; exact ⟨_,rfl,.bool _⟩
 ·cases hs

theorem aminmaxF_sim {P : Program} {mn : Bool} {k : IntKind} : ∀ {xs xs' : List Value} {x : Int} {v : Value},RVs ι xs xs' → aminmaxF mn k x xs = some v →
  (xs'.foldlM (if mn then Builtin.min2 else Builtin.max2) (.int k x) : Sem Value).run P w = .ok v w ∧ RV ι v v
 | [],xs',x,v,h,hs => by
  cases h
  simp [aminmaxF] at hs; subst hs
  exact ⟨rfl,.int _ _⟩
 | y :: xs,xs',x,v,h,hs => by
  cases h with | cons _ y' _ xs' hy hys =>
  cases y <;> simp only [aminmaxF] at hs <;> try (cases hs; done)
  rename_i k' n
  cases hy
  split at hs
  rotate_left
  ·cases hs
  rename_i hk
  subst hk
  obtain ⟨h1,h2⟩ := aminmaxF_sim (P := P) hys hs
  refine ⟨?_,h2⟩
  rw [List.foldlM_cons]
  cases mn
  ·simp only [Bool.false_eq_true,if_false,Builtin.max2,Sem.run_bind,Sem.run_pure,Result.andThen_ok] at h1 ⊢
   exact h1
  ·simp only [if_true,Builtin.min2,Sem.run_bind,Sem.run_pure,Result.andThen_ok] at h1 ⊢
   exact h1

end
end AbsYtkhcbbpfchgemaaDoor

/-
 Operations: the remaining builtin functions and conversions; every operation.
-/
namespace AbsYtkhcbbpfchgemaaDoor
set_option linter.unusedVariables false
set_option linter.unusedSimpArgs false
set_option linter.unusedSectionVars false
open Go

section
variable {E : Env} {ι : Emb} {H H' : AHeap} {w : World}

theorem abuiltin_sim (hE : TyOk E) (h : Rel E ι H w) (hfree : ι H.size = none) {b : Builtin} {ts : List Nat} {ty : Nat} {cs : Array Bool} {args args' : List Value} {v : Value} (ha : RVs ι args args') (hs : abuiltin E H b ts args = some (v,H')) :
  ∃ v' w' ι',(builtin b ts.toArray ty cs ⟨args'⟩).run E.P w = .ok (.value v') w' ∧ RV ι' v v' ∧ Rel E ι' H' w' ∧ Step ι H w ι' H' w' := by
 unfold abuiltin at hs
 split at hs
 ·-- len of a string
  rename_i s
  split at hs
  rotate_left
  ·cases hs
  rename_i t rest
  split at hs
  rotate_left
  ·cases hs
  rename_i ht
  simp at hs; obtain ⟨rfl,rfl⟩ := hs
  obtain ⟨inft,d,ht1,ht2,ht3,ht4,ht5,ht6,ht7⟩ := ti_parts hE ht
  obtain rfl := tk_string ht3
  cases ha with | cons _ _ _ _ hx hr =>
  cases hx; cases hr
  exact ⟨goInt s.size,w,ι,by simp [builtin,Builtin.len_,run_und' w ht2],.int _ _,h,Step.refl _ _ _⟩
 ·rename_i a n c
  split at hs
  rotate_left
  ·cases hs
  rename_i t rest
  split at hs
  rotate_left
  ·cases hs
  rename_i ht
  simp at hs; obtain ⟨rfl,rfl⟩ := hs
  obtain ⟨inft,d,ht1,ht2,ht3,ht4,ht5,ht6,ht7⟩ := ti_parts hE ht
  obtain rfl := tk_slice ht3
  cases ha with | cons _ _ _ _ hx hr =>
  cases hr
  cases hx <;> exact ⟨goInt _,w,ι,by simp only [builtin,Builtin.len_,List.getElem?_toArray,List.getElem?_cons_zero,Sem.run_bind,run_und' w ht2,Result.andThen_ok,Sem.run_pure],.int _ _,h,Step.refl _ _ _⟩
 ·rename_i xs md sz n
  split at hs
  rotate_left
  ·cases hs
  rename_i t rest
  split at hs
  rotate_left
  ·cases hs
  rename_i ht
  injection hs with hs; injection hs with e1 e2; subst e1; subst e2
  obtain ⟨inft,d,ht1,ht2,ht3,ht4,ht5,ht6,ht7⟩ := ti_parts hE ht
  obtain rfl := tk_slice ht3
  cases ha with | cons _ _ _ _ hx hr =>
  cases hr
  cases hx <;> exact ⟨goInt _,w,ι,by simp only [builtin,Builtin.len_,List.getElem?_toArray,List.getElem?_cons_zero,Sem.run_bind,run_und' w ht2,Result.andThen_ok,Sem.run_pure],.int _ _,h,Step.refl _ _ _⟩
 ·split at hs
  rotate_left
  ·cases hs
  rename_i t rest
  split at hs
  rotate_left
  ·cases hs
  rename_i ht
  simp at hs; obtain ⟨rfl,rfl⟩ := hs
  obtain ⟨inft,d,ht1,ht2,ht3,ht4,ht5,ht6,ht7⟩ := ti_parts hE ht
  obtain rfl := tk_map ht3
  cases ha with | cons _ _ _ _ hx hr =>
  cases hx; cases hr
  exact ⟨goInt 0,w,ι,by simp [builtin,Builtin.len_,run_und' w ht2],.int _ _,h,Step.refl _ _ _⟩
 ·rename_i r
  split at hs
  rotate_left
  ·cases hs
  rename_i t rest
  split at hs
  rotate_left
  ·cases hs
  rename_i es clk ht hg
  simp at hs; obtain ⟨rfl,rfl⟩ := hs
  obtain ⟨inft,d,ht1,ht2,ht3,ht4,ht5,ht6,ht7⟩ := ti_parts hE ht
  obtain rfl := tk_map ht3
  cases ha with | cons _ _ _ _ hx hr =>
  cases hr
  cases hx with | map _ l hb =>
  obtain ⟨es',h1,h2⟩ := h.maps _ _ _ _ hb hg
  have hl := h2.length
  refine ⟨.int .i64 es'.size,w,ι,by simp [builtin,Builtin.len_,run_und' w ht2,run_getObj h1,goInt],?_,h,Step.refl _ _ _⟩
  have : (es.length : Int) = es'.size := by simp at hl; omega
  simp only [goInt,this]; exact .int _ _
 ·-- append
  have h2 : ∃ t u s x,ts = [t,u] ∧ args = [s,x] := by
   unfold aappend at hs
   split at hs
   ·exact ⟨_,_,_,_,rfl,rfl⟩
   ·cases hs
  obtain ⟨t,u,s,x,rfl,rfl⟩ := h2
  cases ha with | cons _ s' _ _ hs1 hr =>
  cases hr with | cons _ x' _ _ hx1 hr =>
  cases hr
  obtain ⟨v',w',ι',h3,h4,h5,h6⟩ := aappend_sim (ty := ty) hE h hfree hs1 hx1 hs
  exact ⟨v',w',ι',by simp only [builtin,Sem.run_bind]; rw [h3]; rfl,h4,h5,h6⟩
 ·-- min
  cases hm : aminmax true args with
  | none => simp [hm] at hs
  | some r =>
   simp [hm] at hs; obtain ⟨rfl,rfl⟩ := hs
   unfold aminmax at hm
   split at hm
   rotate_left
   ·cases hm
   cases ha with | cons _ _ _ _ hx hr =>
   cases hx
   obtain ⟨h1,h2⟩ := aminmaxF_sim (P := E.P) (w := w) hr hm
   simp only [if_true] at h1
   exact ⟨_,w,ι,by simp [builtin,Builtin.min_,h1],h2,h,Step.refl _ _ _⟩
 ·cases hm : aminmax false args with
  | none => simp [hm] at hs
  | some r =>
   simp [hm] at hs; obtain ⟨rfl,rfl⟩ := hs
   unfold aminmax at hm
   split at hm
   rotate_left
   ·cases hm
   cases ha with | cons _ _ _ _ hx hr =>
   cases hx
   obtain ⟨h1,h2⟩ := aminmaxF_sim (P := E.P) (w := w) hr hm
   simp only [Bool.false_eq_true,if_false] at h1
   exact ⟨_,w,ι,by simp [builtin,Builtin.max_,h1],h2,h,Step.refl _ _ _⟩
 ·-- delete
  rename_i m k
  split at hs
  rotate_left
  ·cases hs
  rename_i t rest
  cases hd : adelete E H t m k with
  | none => simp [hd] at hs
  | some H2 =>
   simp [hd] at hs; obtain ⟨rfl,rfl⟩ := hs
   cases ha with | cons _ m' _ _ hm hr =>
   cases hr with | cons _ k' _ _ hk hr =>
   cases hr
   obtain ⟨w',h1,h2,h3⟩ := adelete_sim (ts := rest) (ty := ty) hE h hm hk hd
   refine ⟨_,w',ι,?_,.tuple [] [] .nil,h2,h3⟩
   simp only [builtin,Sem.run_bind]; rw [h1]; rfl
 ·-- clear
  rename_i b o ex n c
  split at hs
  rotate_left
  ·cases hs
  rename_i t rest
  split at hs
  rotate_left
  ·cases hs
  rename_i e _ _ _ _ ht
  obtain ⟨inft,d,ht1,ht2,ht3,ht4,ht5,ht6,ht7⟩ := ti_parts hE ht
  obtain rfl := tk_slice ht3
  split at hs
  rotate_left
  ·cases hs
  rename_i j z hj hz
  obtain ⟨j',zs,hj',hzs,rfl⟩ := azero_of hz
  rw [hj] at hj'; simp at hj'; subst hj'
  obtain ⟨zv,hz1,hz2,hz9⟩ := run_zero hE hj w hzs
  have hzc : zv.cells = ⟨zs.map ZV.val⟩ := by rw [← hz2]
  cases ha with | cons _ x' _ _ hx hr =>
  cases hr
  split at hs
  ·split at hs
   rotate_left
   ·cases hs
   rename_i hn
   subst hn
   simp at hs; obtain ⟨rfl,rfl⟩ := hs
   refine ⟨.tuple #[],w,ι,?_,.tuple [] [] .nil,h,Step.refl _ _ _⟩
   cases hx <;> simp [builtin,Builtin.clear_,run_und' w ht2]
  ·rename_i hcond
   simp only [Bool.or_eq_true,decide_eq_true_eq,bne_iff_ne,not_or,ne_eq,Decidable.not_not] at hcond
   obtain ⟨⟨hj0,hzl⟩,hn0⟩ := hcond
   cases hst : astoreAt H b o (reps (zs.map ZV.val) n) with
   | none => simp [hst] at hs
   | some H2 =>
    simp [hst] at hs; obtain ⟨rfl,rfl⟩ := hs
    have hzsz : (⟨zs.map ZV.val⟩ : Array Value).size = j.size := by simpa using hzl
    have hzc2 : Builtin.zeroCells (⟨zs.map ZV.val⟩ : Array Value) n = ⟨reps (zs.map ZV.val) n⟩ := by
     unfold Builtin.zeroCells
     rw [hzsz]
     have := range_reps (⟨zs.map ZV.val⟩ : Array Value) n j.size hzsz hj0
     rw [hzsz] at this
     exact this
    have main : ∀ (l : Loc) (c' : Nat),ι b = some l → x' = .slice (some ⟨l.blk,l.base + o,none⟩) n c' → ∃ v' w' ι',(builtin .clear (t :: rest).toArray ty cs ⟨[x']⟩).run E.P w = .ok (.value v') w' ∧ RV ι' (.tuple #[]) v' ∧ Rel E ι' H2 w' ∧ Step ι H w ι' H2 w' := by
     intro l c' hb hx'
     subst hx'
     obtain ⟨w',h1,h2,h3⟩ := astoreAt_sim (P := E.P) h hb ((RVs.zeros (ι := ι) zs).reps n) hst
     refine ⟨.tuple #[],w',ι,?_,.tuple [] [] .nil,h2,h3⟩
     obtain ⟨m,rfl⟩ : ∃ m,n = m + 1 := ⟨n - 1,by omega⟩
     simp [builtin,Builtin.clear_,run_und' w ht2,hz1,hzc,hzc2,h1]
    cases hx with
    | sliceU _ _ _ _ c' l hb _ _ _ => exact main l c' hb rfl
    | sliceX _ _ _ _ l hb _ _ => exact main l c hb rfl
    | sliceUZ => exact absurd rfl hn0
    | sliceXZ => exact absurd rfl hn0
 ·cases hs

theorem bytes_of {l : List Value} {bs : List UInt8} (h : l.mapM byteOfV = some bs) : ∃ ns : List Int,l = ns.map (Value.int .u8) ∧ bs = ns.map fun n => UInt8.ofNat n.toNat := by
 induction l generalizing bs with
 | nil => simp at h; subst h; exact ⟨[],rfl,rfl⟩
 | cons v l ih =>
  rw [List.mapM_cons] at h
  cases hv : byteOfV v with
  | none => simp [hv] at h
  | some b =>
   cases hl : l.mapM byteOfV with
   | none => simp [hv,hl] at h
   | some r =>
    simp [hv,hl] at h; subst h
    obtain ⟨ns,h1,h2⟩ := ih hl
    unfold byteOfV at hv
    split at hv
    ·rename_i n; injection hv with hv; exact ⟨n :: ns,by rw [h1]; rfl,by rw [h2,← hv]; rfl⟩
    ·cases hv
theorem push_bytes (ns : List Int) (s : ByteArray) : ns.foldl (fun r n => r.push (UInt8.ofNat n.toNat)) s = ⟨s.data ++ (ns.map fun n => UInt8.ofNat n.toNat).toArray⟩ := by
 induction ns generalizing s with
 | nil => simp
 | cons n ns ih =>
  rw [List.foldl_cons,ih]
  simp [ByteArray.push]
theorem RVs.ints {ns : List Int} {k : IntKind} {vs' : List Value} (h : RVs ι (ns.map (Value.int k)) vs') : vs' = ns.map (Value.int k) := by
 induction ns generalizing vs' with
 | nil => cases h; rfl
 | cons n ns ih => cases h with | cons _ _ _ _ hx hr => cases hx; rw [ih hr]; rfl

theorem aconvert_sim (hE : TyOk E) (h : Rel E ι H w) (hfree : ι H.size = none) {s d : Nat} {x x' v : Value} (hx : RV ι x x') (hs : aconvert E H s d x = some (v,H')) :
  ∃ v' w' ι',(convert s d x').run E.P w = .ok v' w' ∧ RV ι' v v' ∧ Rel E ι' H' w' ∧ Step ι H w ι' H' w' := by
 unfold aconvert at hs
 split at hs
 rotate_left
 ·cases hs
 rename_i i j hi hj
 obtain ⟨infs,ds,hs1,hs2,hs3,hs4,hs5,hs6,hs7⟩ := ti_parts hE hi
 obtain ⟨infd,dd,hd1,hd2,hd3,hd4,hd5,hd6,hd7⟩ := ti_parts hE hj
 split at hs
 ·rename_i k k' n hk
  rw [hk] at hd3; obtain rfl := tk_int hd3
  cases hx
  simp at hs; obtain ⟨rfl,rfl⟩ := hs
  refine ⟨_,w,ι,?_,.int _ _,h,Step.refl _ _ _⟩
  simp only [convert,Sem.run_bind,run_und' w hs2,run_und' w hd2,Result.andThen_ok]
  cases ds <;> rfl
 ·rename_i hk1 hk2
  rw [hk1] at hs3; obtain rfl := tk_string hs3
  rw [hk2] at hd3; obtain rfl := tk_string hd3
  cases hx
  simp at hs; obtain ⟨rfl,rfl⟩ := hs
  exact ⟨_,w,ι,by simp [convert,run_und' w hs2,run_und' w hd2],.string _,h,Step.refl _ _ _⟩
 ·rename_i e str hk1 hk2
  rw [hk1] at hs3; obtain rfl := tk_string hs3
  rw [hk2] at hd3; obtain rfl := tk_slice hd3
  cases hx
  split at hs
  rotate_left
  ·cases hs
  rename_i he
  obtain ⟨infe,de,he1,he2,he3,he4,he5,he6,he7⟩ := ti_parts hE he
  obtain rfl := tk_int he3
  have hrun := run_bytes_of_string (P := E.P) w s d e str hs2 hd2 he2
  have hcap := grownCap_ge w str.size 0 e
  have hbl : (bytesRow str (grownCap w str.size 0 e)).size = grownCap w str.size 0 e := by simp [bytesRow]; omega
  have hca : ∀ ι' : Emb,CellsAt ι' (bytesRow str (grownCap w str.size 0 e)) 0 (str.data.toList.map fun b => .int .u8 b.toNat) := by
   intro ι' i v hv
   have hi : i < str.data.toList.length := by
    rcases Nat.lt_or_ge i str.data.toList.length with h1 | h1
    ·exact h1
    ·rw [List.getElem?_eq_none (by simpa using h1)] at hv; simp at hv
   refine ⟨v,?_,?_⟩
   ·simp only [bytesRow,Nat.zero_add]
    rw [Array.getElem?_append_left (by simpa using hi)]
    simp at hv ⊢
    exact hv
   ·simp at hv
    obtain ⟨a,_,rfl⟩ := hv
    exact .int _ _
  injection hs with hs
  split at hs
  ·injection hs with e1 e2; subst e1; subst e2
   have hfz : ∀ l : List UInt8,frzL E.ng E.nb (l.map fun b => Value.int .u8 (b.toNat : Int)) = true := by
    intro l
    induction l with
    | nil => rfl
    | cons a l ih => simp only [List.map_cons,frzL,ih,Bool.and_true]; rfl
   obtain ⟨hR,hS,hh⟩ := (h.world (w' := w.drew) rfl).frozen (C := bytesRow str (grownCap w str.size 0 e)) (ty := e)
    (fz := ((bytesRow str (grownCap w str.size 0 e)).size,(bytesRow str (grownCap w str.size 0 e)).size + 1)) (hca ι) (hfz str.data.toList)
   exact ⟨_,_,_,hrun,.dsl 0 1 str.size _ w.heap.size 0 _ hh (by simp) hcap (fun e => by omega) (fun t e => by omega),hR,Step.trans (Step.world (w2 := w.drew) (Step.refl ι H w) rfl rfl rfl rfl) hS⟩
  ·injection hs with e1 e2; subst e1; subst e2
   obtain ⟨hR,hS⟩ := (h.world (w' := w.drew) rfl).alloc hfree (cs := str.data.toList.map fun b => .int .u8 b.toNat) (wr := true) (sz := 1) (C := bytesRow str (grownCap w str.size 0 e)) (ty := e)
    (fz := ((bytesRow str (grownCap w str.size 0 e)).size,(bytesRow str (grownCap w str.size 0 e)).size + 1))
    (hca ι) (by rw [hbl]; simp at *; exact hcap) (fun _ off ho hf => by simp at hf; omega) (fun h0 => by simp at h0)
   refine ⟨_,_,_,hrun,.sliceU H.size 0 _ _ _ _ (Emb.with_same _ _ _) (Nat.le_refl _) hcap (.inr ?_),hR,Step.trans (Step.world (w2 := w.drew) (Step.refl ι H w) rfl rfl rfl rfl) hS⟩
   show 0 + 0 + _ * 1 ≤ (bytesRow str (grownCap w str.size 0 e)).size
   rw [hbl]; omega
 ·rename_i e n c hk1 hk2
  rw [hk1] at hs3; obtain rfl := tk_slice hs3
  rw [hk2] at hd3; obtain rfl := tk_string hd3
  split at hs
  rotate_left
  ·cases hs
  rename_i he
  obtain ⟨infe,de,he1,he2,he3,he4,he5,he6,he7⟩ := ti_parts hE he
  obtain rfl := tk_int he3
  simp at hs; obtain ⟨rfl,rfl⟩ := hs
  cases hx
  refine ⟨_,w,ι,?_,.string _,h,Step.refl _ _ _⟩
  rw [run_convert_bytes_string w s d e none 0 0 hs2 he2 hd2]
  rfl
 ·rename_i e b o ex n c hk1 hk2
  rw [hk1] at hs3; obtain rfl := tk_slice hs3
  rw [hk2] at hd3; obtain rfl := tk_string hd3
  split at hs
  rotate_left
  ·cases hs
  rename_i he
  obtain ⟨infe,de,he1,he2,he3,he4,he5,he6,he7⟩ := ti_parts hE he
  obtain rfl := tk_int he3
  split at hs
  rotate_left
  ·cases hs
  rename_i l htk
  cases hm : l.mapM byteOfV with
  | none => simp [hm] at hs
  | some bs =>
   simp [hm] at hs; obtain ⟨rfl,rfl⟩ := hs
   obtain ⟨ns,h1,h2⟩ := bytes_of hm
   have key : ∀ (a : Addr) (c' : Nat) (vs' : List Value),(loadCells a n).run E.P w = .ok ⟨vs'⟩ w → RVs ι l vs' → (convert s d (.slice (some a) n c')).run E.P w = .ok (.string ⟨bs.toArray⟩) w := by
    intro a c' vs' hl hr
    rw [run_convert_bytes_string w s d e (some a) n c' hs2 he2 hd2]
    rw [h1] at hr
    have := hr.ints
    subst this
    rw [run_bytesToString (P := E.P) w a n c' ns hl,push_bytes]
    congr 3
    rw [h2]
    show (#[] : Array UInt8) ++ _ = _
    simp
   cases hx with
   | sliceU _ _ _ _ c' lc hb _ _ _ =>
    obtain ⟨vs',h3,h4,h5⟩ := takeCells_sim (P := E.P) h hb htk
    exact ⟨_,w,ι,key _ _ _ h3 h4,.string _,h,Step.refl _ _ _⟩
   | sliceX _ _ _ _ lc hb _ _ =>
    obtain ⟨vs',h3,h4,h5⟩ := takeCells_sim (P := E.P) h hb htk
    exact ⟨_,w,ι,key _ _ _ h3 h4,.string _,h,Step.refl _ _ _⟩
   | sliceUZ _ _ a' lc hb =>
    obtain ⟨_,_,_,_,_,rfl⟩ := takeCells_parts htk
    exact ⟨_,w,ι,key _ _ [] rfl (by simp; exact .nil),.string _,h,Step.refl _ _ _⟩
   | sliceXZ _ _ a' lc hb =>
    obtain ⟨_,_,_,_,_,rfl⟩ := takeCells_parts htk
    exact ⟨_,w,ι,key _ _ [] rfl (by simp; exact .nil),.string _,h,Step.refl _ _ _⟩
 ·rename_i e xs md sz n hk1 hk2
  rw [hk1] at hs3; obtain rfl := tk_slice hs3
  rw [hk2] at hd3; obtain rfl := tk_string hd3
  split at hs
  rotate_left
  ·cases hs
  rename_i he
  obtain ⟨infe,de,he1,he2,he3,he4,he5,he6,he7⟩ := ti_parts hE he
  obtain rfl := tk_int he3
  split at hs
  rotate_left
  ·cases hs
  rename_i hsz
  subst hsz
  cases hm : xs.mapM byteOfV with
  | none => simp [hm] at hs
  | some bs =>
   simp [hm] at hs; obtain ⟨rfl,rfl⟩ := hs
   obtain ⟨ns,h1,h2⟩ := bytes_of hm
   have key : ∀ (a : Addr) (c' : Nat) (vs' : List Value),(loadCells a n).run E.P w = .ok ⟨vs'⟩ w → RVs ι xs vs' → (convert s d (.slice (some a) n c')).run E.P w = .ok (.string ⟨bs.toArray⟩) w := by
    intro a c' vs' hl hr
    rw [run_convert_bytes_string w s d e (some a) n c' hs2 he2 hd2]
    rw [h1] at hr
    have := hr.ints
    subst this
    rw [run_bytesToString (P := E.P) w a n c' ns hl,push_bytes]
    congr 3
    rw [h2]
    show (#[] : Array UInt8) ++ _ = _
    simp
   cases hx with
   | dsl _ _ _ _ B o c' hh hl hc g1 g2 =>
    obtain ⟨_,vs',h3,h4,_⟩ := srcCells_sim (size := 1) (k := n) (vs := xs) h (RV.dsl md 1 n xs B o c' hh hl hc g1 g2) (by simp [srcCells])
    simp only [Builtin.firstCells,Nat.mul_one] at h3
    exact ⟨_,w,ι,key _ _ _ h3 h4,.string _,h,Step.refl _ _ _⟩
   | dslZ _ _ a' hm => exact ⟨_,w,ι,key _ _ [] rfl .nil,.string _,h,Step.refl _ _ _⟩
 ·cases hs

end
end AbsYtkhcbbpfchgemaaDoor
