/-
  Parts of a law's proof.
-/
import Derived.Test.YtjkhhdknplelcaaGreatDoorAUtqfJ
namespace Go.Proofs.YtjkhhdknplelcaaGreatDoor.AbsB
open Go AbsYtjkhhdknplelcaaGreatDoor Abs
set_option maxRecDepth 100000
set_option maxHeartbeats 4000000
set_option linter.unusedSimpArgs false
set_option linter.unusedVariables false
def varW (n : Int) : ByteArray ⊕ (Nat × Nat) := if n < 0 ∨ 268435455 < n then .inr (4,0) else .inl (str (enc n.toNat))
def binW (s : ByteArray) : ByteArray ⊕ (Nat × Nat) := if 65535 < s.size then .inr (4,0) else .inl (numB s.size 2 ++ s)
def textW (s : ByteArray) : ByteArray ⊕ (Nat × Nat) := match textF s with
 | .inr (k,p) => .inr (k + 1,2 + p)
 | .inl _ => binW s
theorem textF_p {s : ByteArray} {k p : Nat} (h : textF s = .inr (k,p)) : p ≤ s.size := by
 unfold textF at h
 split at h
 ·injection h with h; injection h with h1 h2; omega
 ·split at h
  ·injection h with h; injection h with h1 h2; omega
  ·cases h
section
variable {σ : AHeap} {w : Nat} {a s : ByteArray} {fp : List Nat} {n : Int} {Q : Value → AHeap → Prop}
theorem specPut (hbad : n < 0 ∨ 268435455 < n → Q (.tuple #[.string emp,fv 129 0 (sent 4)]) σ) (hok : ¬ (n < 0 ∨ 268435455 < n) → Q (.tuple #[.string (str (enc n.toNat)),.nilIface]) σ) : CallS E B 134 [.int .i64 n] σ Q :=
 of_W (P := fun r => if n < 0 ∨ 268435455 < n then r = .tuple #[.string emp,fv 129 0 (sent 4)] else r = .tuple #[.string (str (enc n.toNat)),.nilIface])
  (fun H hB => (spec134 hB).mono fun r H' ⟨h1,h2⟩ => ⟨h1,by
    split
    ·rename_i h; rw [if_pos h] at h2; obtain ⟨e,h3,h4⟩ := h2; rw [h3,h4]
    ·rename_i h; rw [if_neg h] at h2; exact h2⟩)
  fun r h => by
   split at h
   ·rename_i h'; rw [h]; exact hbad h'
   ·rename_i h'; rw [h]; exact hok h'
theorem specCheck (hs : s.size ≤ 100000) (hok : ∀ m,textF s = .inl m → Q .nilIface σ) (hbad : ∀ k p,textF s = .inr (k,p) → Q (fv 129 (p : Int) (sent (k + 1))) σ) : CallS E B 90 [.string s] σ Q :=
 of_W (P := fun r => match textF s with | .inl n => r = .nilIface | .inr (k,p) => r = fv 129 (p : Int) (sent (k + 1)))
  (fun H hB => (spec90 hB hs).mono fun r H' ⟨h1,h2⟩ => ⟨h1,h2⟩)
  fun r h => by
   split at h
   ·rename_i m hm; rw [h]; exact hok m hm
   ·rename_i k p hm; rw [h]; exact hbad k p hm
theorem specVar (hw : IsW σ w a .nilIface fp) (hz : a.size ≤ 10000000) (h : ∀ σ' fp',Kept σ fp σ' fp' → WOut σ' w a (varW n) fp' → Q unit σ') : CallS E B 88 [.pointer (some ⟨w,0,none⟩),.int .i64 n] σ Q := by
 refine call88 (by simp) ?_
 simp only [strip,bodyOf,Tryz.f88,getD_body,keepN,bareOp_mk,List.map_cons,List.map_nil,↓reduceIte,Bool.false_eq_true]
 simp only [↓sbD,sbU,↓reduceIte,Nat.reduceLT]
 refine specOff hw ?_
 simp only [↓sbD,sbU,↓reduceIte,Nat.reduceEqDiff,Nat.reduceLT]
 have hw' := hw
 obtain ⟨v,gp,h1,h2,rfl,h4⟩ := hw
 refine specPut (fun hb => ?_) fun hb => ?_
 ·have hlen : abuiltin E σ .len [58] [v] = some (.int .i64 (a.size : Int),σ) := BS.len h2
  simp only [↓sbD,sbU,tyB,↓reduceIte,Nat.reduceEqDiff,Nat.reduceLT,reduceCtorEq,isConst,h1,hlen]
  refine specDeeper (n := 0) (m := a.size) (by omega) (by omega) ?_
  simp only [↓sbD,sbU,↓reduceIte,Nat.reduceEqDiff,Nat.reduceLT]
  refine specFail hw' fun σ' k hi => ?_
  simp only [↓sbD,sbU]
  refine downS_here (h σ' _ k ?_)
  unfold varW
  rw [if_pos hb]
  exact ⟨2,_,by omega,ErN.deeper _ _ (ErN.new _ _ ⟨by omega,by omega⟩),hi⟩
 ·have hN : n.toNat < 268435456 := by omega
  have hv := vsize_pos n.toNat
  simp only [↓sbD,sbU,tyB,↓reduceIte,Nat.reduceEqDiff,Nat.reduceLT,reduceCtorEq,isConst,h1]
  refine app_bytes h2 (fun b => src_str) (.inl rfl) (by rw [str_size,enc_len]; omega) fun σ' v' fp' k hb' => ?_
  obtain ⟨h5,h6⟩ := k.at h1 (by simp) h4
  obtain ⟨hvc,hoc⟩ := hb'.vc
  simp only [↓sbD,sbU,tyB,↓reduceIte,Nat.reduceEqDiff,Nat.reduceLT,Nat.reduceAdd,Nat.reduceLeDiff,reduceCtorEq,splice,h5,hvc,hoc]
  refine downS_here (h _ _ ((k.more (l := [w])).trans (Kept.set (by simp))) ?_)
  unfold varW
  rw [if_neg hb]
  exact ⟨v',fp',AHeap.get_set_same _ _ _,hb'.set h6,rfl,h6⟩
theorem specVarE {u : Nat} {x : Value} (hw : IsW σ w a (.iface u x) fp) (h : Q unit σ) : CallS E B 88 [.pointer (some ⟨w,0,none⟩),.int .i64 n] σ Q := by
 refine call88 (by simp) ?_
 simp only [strip,bodyOf,Tryz.f88,getD_body,keepN,bareOp_mk,List.map_cons,List.map_nil,↓reduceIte,Bool.false_eq_true]
 simp only [↓sbD,sbU,↓reduceIte,Nat.reduceLT]
 refine specOffE hw ?_
 simp only [↓sbD,sbU,↓reduceIte,Nat.reduceLT]
 exact downS_here h
theorem numB_size (n k : Nat) : (numB n k).size ≤ 4 := by
 unfold numB
 split
 ·rw [str_size]; simp
 ·split <;> rw [str_size] <;> simp
theorem specBin (hw : IsW σ w a .nilIface fp) (hz : a.size ≤ 10000000) (hs : s.size ≤ 1000000) (h : ∀ σ' fp',Kept σ fp σ' fp' → WOut σ' w a (binW s) fp' → Q unit σ') : CallS E B 69 [.pointer (some ⟨w,0,none⟩),.string s] σ Q := by
 refine call69 (by simp) ?_
 simp only [strip,bodyOf,Tryz.f69,getD_body,keepN,bareOp_mk,List.map_cons,List.map_nil,↓reduceIte,Bool.false_eq_true]
 simp only [↓sbD,sbU,tyB,↓reduceIte,Nat.reduceEqDiff,Nat.reduceLT,goInt]
 refine specU16 hw hz fun σ' fp' k ho => ?_
 unfold numW at ho
 by_cases hb : 65535 < s.size
 ·rw [if_pos (by right; simp; omega)] at ho
  have ho' := ho
  obtain ⟨d,x,hd,he,hi⟩ := ho
  simp only [↓sbD,sbU,↓reduceIte,Nat.reduceEqDiff,Nat.reduceLT,reduceCtorEq]
  refine specRawE hi ?_
  simp only [↓sbD,sbU]
  refine downS_here (h σ' fp' k ?_)
  unfold binW
  rw [if_pos hb]
  exact ho'
 ·rw [if_neg (by simp; omega)] at ho
  have ho : IsW σ' w (a ++ numB s.size 2) .nilIface fp' := by simpa [WOut] using ho
  simp only [↓sbD,sbU,↓reduceIte,Nat.reduceEqDiff,Nat.reduceLT,reduceCtorEq]
  refine specRaw ho (by rw [size_app]; have := numB_size s.size 2; omega) fun τ gp k' hi => ?_
  simp only [↓sbD,sbU]
  refine downS_here (h τ gp (k.trans k') ?_)
  unfold binW
  rw [if_neg hb]
  rw [app_assoc] at hi
  exact hi
theorem specBinE {u : Nat} {x : Value} (hw : IsW σ w a (.iface u x) fp) (h : Q unit σ) : CallS E B 69 [.pointer (some ⟨w,0,none⟩),.string s] σ Q := by
 refine call69 (by simp) ?_
 simp only [strip,bodyOf,Tryz.f69,getD_body,keepN,bareOp_mk,List.map_cons,List.map_nil,↓reduceIte,Bool.false_eq_true]
 simp only [↓sbD,sbU,tyB,↓reduceIte,Nat.reduceEqDiff,Nat.reduceLT,goInt]
 refine specU16E hw ?_
 simp only [↓sbD,sbU,↓reduceIte,Nat.reduceEqDiff,Nat.reduceLT,reduceCtorEq]
 refine specRawE hw ?_
 simp only [↓sbD,sbU]
 exact downS_here h
theorem specText (hw : IsW σ w a .nilIface fp) (hz : a.size ≤ 10000000) (hs : s.size ≤ 100000) (h : ∀ σ' fp',Kept σ fp σ' fp' → WOut σ' w a (textW s) fp' → Q unit σ') : CallS E B 42 [.pointer (some ⟨w,0,none⟩),.string s] σ Q := by
 refine call42 (by simp) ?_
 simp only [strip,bodyOf,Tryz.f42,getD_body,keepN,bareOp_mk,List.map_cons,List.map_nil,↓reduceIte,Bool.false_eq_true]
 simp only [↓sbD,sbU,↓reduceIte,Nat.reduceLT]
 refine specOff hw ?_
 simp only [↓sbD,sbU,↓reduceIte,Nat.reduceEqDiff,Nat.reduceLT]
 have hw' := hw
 obtain ⟨v,gp,h1,h2,rfl,h4⟩ := hw
 refine specCheck hs (fun m hm => ?_) fun k p hm => ?_
 ·simp only [↓sbD,sbU,tyB,↓reduceIte,Nat.reduceEqDiff,Nat.reduceLT,reduceCtorEq,isConst]
  refine specBin hw' hz (by omega) fun σ' fp' k ho => ?_
  simp only [↓sbD,sbU]
  refine downS_here (h σ' fp' k ?_)
  unfold textW
  rw [hm]; exact ho
 ·have hlen : abuiltin E σ .len [58] [v] = some (.int .i64 (a.size : Int),σ) := BS.len h2
  have hwr : IntKind.i64.wrap ((a.size : Int) + 2) = ((a.size + 2 : Nat) : Int) := by rw [wrap64 ⟨by omega,by omega⟩]; omega
  have hp := textF_p hm
  have hk := textF_k hm
  simp only [↓sbD,sbU,tyB,↓reduceIte,Nat.reduceEqDiff,Nat.reduceLT,reduceCtorEq,isConst,h1,hlen,hwr]
  refine specDeeper (n := p) (m := a.size + 2) (by omega) (by omega) ?_
  simp only [↓sbD,sbU,↓reduceIte,Nat.reduceEqDiff,Nat.reduceLT]
  refine specFail hw' fun σ' kk hi => ?_
  simp only [↓sbD,sbU]
  refine downS_here (h σ' _ kk ?_)
  unfold textW
  rw [hm]
  refine ⟨2,fv 129 (p : Int) (sent (k + 1)),by omega,ErN.deeper _ _ (ErN.new _ _ ⟨by omega,by omega⟩),?_⟩
  have e : a.size + 2 + p = a.size + (2 + p) := by omega
  rw [← e]; exact hi
theorem specTextE {u : Nat} {x : Value} (hw : IsW σ w a (.iface u x) fp) (h : Q unit σ) : CallS E B 42 [.pointer (some ⟨w,0,none⟩),.string s] σ Q := by
 refine call42 (by simp) ?_
 simp only [strip,bodyOf,Tryz.f42,getD_body,keepN,bareOp_mk,List.map_cons,List.map_nil,↓reduceIte,Bool.false_eq_true]
 simp only [↓sbD,sbU,↓reduceIte,Nat.reduceLT]
 refine specOffE hw ?_
 simp only [↓sbD,sbU,↓reduceIte,Nat.reduceLT]
 exact downS_here h
end
structure Act where
 k : Int
 n : Int
 s : ByteArray
def actW (a : Act) : ByteArray ⊕ (Nat × Nat) := if a.k = 1 then numW a.n 1 else if a.k = 2 then numW a.n 2 else if a.k = 4 then numW a.n 4 else if a.k = 5 then varW a.n else if a.k = 6 then textW a.s else if a.k = 7 then binW a.s else if a.k = 8 then .inl a.s else .inl emp
theorem app_emp' (a : ByteArray) : a ++ emp = a := by
 apply ByteArray.ext
 simp [ByteArray.data_append,emp]
section
variable {σ : AHeap} {w : Nat} {b : ByteArray} {a : Act} {fp : List Nat} {Q : Value → AHeap → Prop}
end
theorem textF_inl {s : ByteArray} {m : Nat} (h : textF s = .inl m) : s.size ≤ 65535 := by
 unfold textF at h
 split at h
 ·cases h
 ·omega
theorem binW_inl {s : ByteArray} (h : s.size ≤ 65535) : binW s = .inl (numB s.size 2 ++ s) := by unfold binW; rw [if_neg (by omega)]
theorem chunks {α : Type} {enc : α → List Value} {sz : Nat} (hsz : ∀ a,(enc a).length = sz) : ∀ (n : Nat) (cs : List Value),cs.length = n * sz → (∀ k,k < n → ∃ a,(cs.drop (k * sz)).take sz = enc a) → ∃ l : List α,l.length = n ∧ cs = l.flatMap enc
 | 0,cs,hl,_ => ⟨[],rfl,by rw [Nat.zero_mul] at hl; exact List.eq_nil_of_length_eq_zero hl⟩
 | n + 1,cs,hl,h => by
  obtain ⟨a,ha⟩ := h 0 (by omega)
  rw [Nat.zero_mul,List.drop_zero] at ha
  obtain ⟨l,h1,h2⟩ := chunks hsz n (cs.drop sz) (by rw [List.length_drop,hl,Nat.succ_mul]; omega) (fun k hk => by
   obtain ⟨b,hb⟩ := h (k + 1) (by omega)
   refine ⟨b,?_⟩
   rw [← hb,List.drop_drop,Nat.succ_mul,Nat.add_comm])
  exact ⟨a :: l,by simp [h1],by rw [List.flatMap_cons,← ha,← h2,List.take_append_drop]⟩
def DL {α : Type} (enc : α → List Value) (sz : Nat) (v : Value) (l : List α) : Prop := (l = [] ∧ v = .slice none 0 0) ∨ ∃ m,v = dsl m sz l.length (l.flatMap enc)
theorem numW_size {n : Int} {k : Nat} {m : ByteArray} (h : numW n k = .inl m) : m.size ≤ 4 := by
 unfold numW at h
 split at h
 ·cases h
 ·injection h with h; subst h; exact numB_size _ _
theorem binW_size {s m : ByteArray} (h : binW s = .inl m) : m.size ≤ s.size + 4 := by
 unfold binW at h
 split at h
 ·cases h
 ·injection h with h; subst h; rw [size_app]; have := numB_size s.size 2; omega
theorem actW_size {a : Act} {m : ByteArray} (h : actW a = .inl m) : m.size ≤ a.s.size + 4 := by
 unfold actW at h
 split at h
 ·have := numW_size h; omega
 split at h
 ·have := numW_size h; omega
 split at h
 ·have := numW_size h; omega
 split at h
 ·unfold varW at h
  split at h
  ·cases h
  ·injection h with h; subst h; rw [str_size,enc_len]; have := vsize_pos a.n.toNat; omega
 split at h
 ·unfold textW at h
  split at h
  ·cases h
  ·exact binW_size h
 split at h
 ·exact binW_size h
 split at h
 ·injection h with h; subst h; omega
 ·injection h with h; subst h; have : emp.size = 0 := rfl; omega
def DG {α : Type} (enc : α → List Value) (sz : Nat) (σ : AHeap) (v : Value) (l : List α) (fp : List Nat) : Prop :=
 (l = [] ∧ v = .slice none 0 0 ∧ fp = []) ∨ ∃ m,v = dsl m sz l.length (l.flatMap enc) ∧ ((m = 1 ∧ fp = []) ∨ ∃ t,m = t + 2 ∧ σ.get t = .cells [] true sz ∧ fp = [t])
theorem Kept.none {σ σ' : AHeap} {fp fp' : List Nat} (h : Kept σ fp σ' fp') : Kept σ fp σ' [] := ⟨h.get,fun _ h => by cases h⟩
theorem Kept.wid {σ σ' : AHeap} {fp fp' gp gp' : List Nat} (k : Kept σ fp σ' fp') (h1 : ∀ b ∈ fp,b ∈ gp) (h2 : ∀ b ∈ gp',b ∈ fp' ∨ b ∈ gp) : Kept σ gp σ' gp' where
 get b hb hn := k.get b hb fun h => hn (h1 b h)
 new b hb := by
  rcases h2 b hb with h | h
  ·rcases k.new b h with h | h
   ·exact .inl (h1 b h)
   ·exact .inr h
  ·exact .inl h
theorem Kept.tmp {σ : AHeap} {c : Nat} {o o' : AObj} (hc : σ.get c = .dead) : Kept σ [] ((σ.set c o).set c o') [] := ((Kept.new' hc).trans (Kept.set (by simp))).wid (fun _ h => h) fun _ h => .inr h
theorem Kept.le {σ σ' : AHeap} {fp : List Nat} (k : Kept σ [] σ' fp) : Le σ σ' := fun b hb => k.get b hb (by simp)
section
variable {α : Type} {enc : α → List Value} {sz : Nat} {σ σ' : AHeap} {v : Value} {l : List α} {fp : List Nat}
theorem DG.nil : DG enc sz σ (.slice none 0 0) ([] : List α) [] := .inl ⟨rfl,rfl,rfl⟩
theorem DG.kept {gp gp' : List Nat} (h : DG enc sz σ v l fp) (k : Kept σ gp σ' gp') (hd : ∀ b ∈ fp,b ∉ gp) : DG enc sz σ' v l fp := by
 rcases h with h | ⟨m,h1,h2⟩
 ·exact .inl h
 ·rcases h2 with h2 | ⟨t,h3,h4,h5⟩
  ·exact .inr ⟨m,h1,.inl h2⟩
  ·exact .inr ⟨m,h1,.inr ⟨t,h3,by rw [k.get t (by rw [h4]; simp) (hd t (by rw [h5]; simp))]; exact h4,h5⟩⟩
theorem DG.live (h : DG enc sz σ v l fp) : ∀ b ∈ fp,σ.get b ≠ .dead := by
 rcases h with ⟨_,_,rfl⟩ | ⟨m,_,⟨_,rfl⟩ | ⟨t,_,h4,rfl⟩⟩ <;> intro b hb
 ·cases hb
 ·cases hb
 ·obtain rfl := List.mem_singleton.1 hb; rw [h4]; simp
theorem DG.bare (h : DG enc sz σ v l fp) : DL enc sz (bare v) l := by
 rcases h with ⟨h1,rfl,_⟩ | ⟨m,rfl,_⟩
 ·exact .inl ⟨h1,rfl⟩
 ·exact .inr ⟨_,rfl⟩
theorem DG.dl (h : DG enc sz σ v l fp) : DL enc sz v l := by
 rcases h with ⟨h1,rfl,_⟩ | ⟨m,rfl,_⟩
 ·exact .inl ⟨h1,rfl⟩
 ·exact .inr ⟨_,rfl⟩
theorem bareL_app : ∀ (a b : List Value),bareL (a ++ b) = bareL a ++ bareL b
 | [],_ => rfl
 | v :: a,b => by show bare v :: bareL (a ++ b) = _; rw [bareL_app a b]; rfl
theorem bareL_flat (hb : ∀ a,bareL (enc a) = enc a) : ∀ l : List α,bareL (l.flatMap enc) = l.flatMap enc
 | [] => rfl
 | a :: l => by rw [List.flatMap_cons,bareL_app,hb,bareL_flat hb l]
theorem frzL_flat (hf : ∀ a,frzL E.ng E.nb (enc a) = true) : ∀ l : List α,frzL E.ng E.nb (l.flatMap enc) = true
 | [] => by simp [frzL]
 | a :: l => by rw [List.flatMap_cons]; exact AbsYtjkhhdknplelcaaGreatDoor.frzL_append (hf a) (frzL_flat hf l)
theorem oc_flat (ho : ∀ a,(enc a).all oneCell = true) (l : List α) : (l.flatMap enc).all oneCell = true := by
 rw [List.all_flatMap]
 rw [List.all_eq_true]
 intro a _
 exact ho a
theorem app_deep {K : Value → AHeap → Prop} {x : Value} {xs : List α} {t e u by_ a1 a2 : Nat} {z1 : Option (List ZV)} {q1 q2 : Bool} {k2 : TK} {zs : List ZV} {iu : TI}
  (ht : E.ty.get t = some ⟨.slice e,a1,a2,z1,q1⟩) (he : E.ty.get e = some ⟨k2,sz,by_,some zs,q2⟩) (hz : zs.length = sz) (hs0 : 0 < sz) (hby : 0 < by_) (hu : E.ty.get u = some iu) (hki : iu.k.isInt = false) (hdp : E.dp t = true)
  (hb : ∀ a,bareL (enc a) = enc a) (hf : ∀ a,frzL E.ng E.nb (enc a) = true) (ho : ∀ a,(enc a).all oneCell = true)
  (hv : DG enc sz σ v l fp) (hx : DL enc sz x xs) (hn : (l.length + xs.length) * by_ ≤ 140737488355328) (hq : ∀ σ' v' fp',Kept σ fp σ' fp' → DG enc sz σ' v' (l ++ xs) fp' → K v' σ') :
  afterOpS E B (some (.any fun b => aappend E (σ.resize b) [t,u] [v,x])) σ K := by
 intro b hb0
 have hbd : σ.get b = .dead := by
  rcases hg : σ.get b with _ | _ | _
  ·rfl
  ·exact absurd (hb0 b (by rw [hg]; simp)) (Nat.lt_irrefl _)
  ·exact absurd (hb0 b (by rw [hg]; simp)) (Nat.lt_irrefl _)
 have hz5 : azero E e = some (zs.map ZV.val) := by unfold azero; rw [he]; rfl
 have hsrc : srcCells (σ.resize b) sz x = some (xs.length,xs.flatMap enc) := by
  rcases hx with ⟨rfl,rfl⟩ | ⟨m,rfl⟩
  ·rfl
  ·simp only [dsl,srcCells,if_true]
 have hbare := bareL_flat hb xs
 have hfz := frzL_flat hf xs
 have hoc := oc_flat ho xs
 have c0 : (sz == 0 || by_ == 0 || (zs.map ZV.val).length != sz || iu.k.isInt) = false := by
  rw [List.length_map,hz,hki]
  have h1 : (sz == 0) = false := by simp; omega
  have h2 : (by_ == 0) = false := by simp; omega
  rw [h1,h2]; simp
 have c0' : (decide (sz = 0) || decide (by_ = 0) || (zs.map ZV.val).length != sz || iu.k.isInt) = false := by
  rw [List.length_map,hz,hki]
  have h1 : decide (sz = 0) = false := by simp; omega
  have h2 : decide (by_ = 0) = false := by simp; omega
  rw [h1,h2]; simp
 have hnew : ∀ τ : AHeap,τ.size = b → (∀ c,c ∉ fp → τ.get c = σ.get c) → Kept σ fp ((deepNew τ sz (l.length + xs.length) ((l ++ xs).flatMap enc)).2.resize σ.size) [b] ∧ DG enc sz ((deepNew τ sz (l.length + xs.length) ((l ++ xs).flatMap enc)).2.resize σ.size) (deepNew τ sz (l.length + xs.length) ((l ++ xs).flatMap enc)).1 (l ++ xs) [b] := by
  intro τ hτ hg
  subst hτ
  refine ⟨⟨fun c hc hn => ?_,fun c hc => ?_⟩,.inr ⟨τ.size + 2,by simp only [deepNew,List.length_append],.inr ⟨τ.size,rfl,AHeap.get_alloc_same _ _,rfl⟩⟩⟩
  ·show (τ.alloc _).get c = σ.get c
   rw [AHeap.get_alloc_ne _ _ (by rintro rfl; exact hc hbd)]
   exact hg c hn
  ·obtain rfl := List.mem_singleton.1 hc; exact .inr hbd
 rcases hv with ⟨rfl,rfl,rfl⟩ | ⟨m,rfl,hm⟩
 ·by_cases h0 : xs.length = 0
  ·refine ⟨.slice none 0 0,σ.resize b,?_,hq _ _ [] ⟨fun c _ _ => rfl,fun _ h => by cases h⟩ (.inl ⟨by rw [List.nil_append]; exact List.eq_nil_of_length_eq_zero h0,rfl,rfl⟩)⟩
   simp only [aappend,ht,hu,he,hz5,hsrc,c0',h0,Bool.false_eq_true,if_false,if_true]
   try simp
  ·obtain ⟨g1,g2⟩ := hnew (σ.resize b) rfl (fun c _ => rfl)
   refine ⟨_,_,?_,hq _ _ _ g1 g2⟩
   have c1 : xs.length * by_ ≤ 140737488355328 := by simpa using hn
   simp only [aappend,ht,hu,he,hz5,hsrc,c0',h0,hoc,hbare,hfz,hdp,c1,Bool.false_eq_true,if_false,if_true,decide_true,Bool.and_self,List.nil_append,List.length_nil,Nat.zero_add]
 ·by_cases h0 : xs.length = 0
  ·refine ⟨_,σ.resize b,?_,hq _ (dsl m sz l.length (l.flatMap enc)) fp ⟨fun c _ _ => rfl,fun _ h => .inl h⟩ (.inr ⟨m,by rw [List.eq_nil_of_length_eq_zero h0,List.append_nil],hm⟩)⟩
   simp only [aappend,ht,hu,he,hz5,hsrc,c0',h0,dsl,Bool.false_eq_true,if_false,if_true]
  ·have c2 : (l.flatMap enc ++ xs.flatMap enc) = (l ++ xs).flatMap enc := by rw [List.flatMap_append]
   rcases hm with ⟨rfl,rfl⟩ | ⟨tk,rfl,hg,rfl⟩
   ·obtain ⟨g1,g2⟩ := hnew (σ.resize b) rfl (fun c _ => rfl)
    refine ⟨_,_,?_,hq _ _ _ g1 g2⟩
    simp only [aappend,ht,hu,he,hz5,hsrc,c0',h0,dsl,hn,hoc,hbare,hfz,c2,Bool.false_eq_true,if_false,if_true,decide_true,Bool.and_self]
   ·obtain ⟨g1,g2⟩ := hnew ((σ.resize b).set tk .dead) rfl (fun c hc => by rw [AHeap.get_set_ne _ _ (by rintro rfl; exact hc (by simp))]; rfl)
    refine ⟨_,_,?_,hq _ _ _ g1 g2⟩
    simp only [aappend,ht,hu,he,hz5,hsrc,c0',h0,dsl,hn,hoc,hbare,hfz,c2,get_resize,hg,Bool.false_eq_true,if_false,if_true,decide_true,Bool.and_self]
end
def resC (v : Option Value) (r : Option (List Value)) : Option (List Value) := match v,r with
 | some v,some r => some (v :: r)
 | _,_ => none
theorem res_cellc {E : Env} {H : AHeap} {n : Nat} {f : Nat → Value} {a t : Nat} {r : List ResultVar} : AbsYtjkhhdknplelcaaGreatDoor.results E (L n f) H (.cell a t :: r) = resC (aload E H t (if a < n then f a else undef)) (AbsYtjkhhdknplelcaaGreatDoor.results E (L n f) H r) := by
 have e : (L n f).getD a undef = if a < n then f a else undef := aev_tmp (t := a)
 simp only [AbsYtjkhhdknplelcaaGreatDoor.results,e]
 cases aload E H t (if a < n then f a else undef) <;> cases AbsYtjkhhdknplelcaaGreatDoor.results E (L n f) H r <;> rfl
theorem resC_some {v : Value} {r : List Value} : resC (some v) (some r) = some (v :: r) := rfl
def lastP (K : List Value → AHeap → Prop) : List (List Value × AHeap) → Prop
 | [] => False
 | [s] => K s.1 s.2
 | _ :: s :: l => lastP K (s :: l)
theorem lastP_cc {K : List Value → AHeap → Prop} {a b : List Value × AHeap} {l : List (List Value × AHeap)} : lastP K (a :: b :: l) = lastP K (b :: l) := rfl
theorem lastP_one {K : List Value → AHeap → Prop} {A : List Value} {H : AHeap} : lastP K [(A,H)] = K A H := rfl
theorem lastP_get {K : List Value → AHeap → Prop} : ∀ {l : List (List Value × AHeap)},lastP K l → ∃ A H,l.getLast? = some (A,H) ∧ K A H
 | [],h => h.elim
 | [(A,H)],h => ⟨A,H,rfl,h⟩
 | _ :: s :: l,h => by
  obtain ⟨A,H,h1,h2⟩ := lastP_get (l := s :: l) h
  exact ⟨A,H,by rw [List.getLast?_cons_cons]; exact h1,h2⟩
theorem drawS_l {ops : Array Oper} {Q : AExit → List Value → AHeap → Prop} {tr : List (List Value × AHeap)} {fl : List (Nat × Nat)} (hf : floatPairs ops = fl) (h1 : fl.all (floatS B ops tr) = true) (h2 : lastP (Q .normal) tr) : drawS B ops Q tr := by
 obtain ⟨A,H,h3,h4⟩ := lastP_get h2
 exact drawS_of hf ⟨h1,A,H,h3,h4⟩
end Go.Proofs.YtjkhhdknplelcaaGreatDoor.AbsB
