/-
  Parts of a law's proof.
-/
import Derived.Test.YtccimdfmddomaaaDoorAUtqfJ
namespace Go.Proofs.YtccimdfmddomaaaDoor.AbsA
open Go AbsYtccimdfmddomaaaDoor Abs
set_option maxRecDepth 100000
set_option maxHeartbeats 4000000
set_option linter.unusedSimpArgs false
set_option linter.unusedVariables false
def varW (n : Int) : ByteArray ⊕ (Nat × Nat) := if n < 0 ∨ 268435455 < n then .inr (4, 0) else .inl (str (enc n.toNat))
def binW (s : ByteArray) : ByteArray ⊕ (Nat × Nat) := if 65535 < s.size then .inr (4, 0) else .inl (numB s.size 2 ++ s)
def textW (s : ByteArray) : ByteArray ⊕ (Nat × Nat) := match textF s with
  | .inr (k, p) => .inr (k + 1, 2 + p)
  | .inl _ => binW s
section
variable {σ : AHeap} {w : Nat} {a s : ByteArray} {fp : List Nat} {n : Int} {Q : Value → AHeap → Prop}
end
end Go.Proofs.YtccimdfmddomaaaDoor.AbsA
namespace Go.Proofs.YtccimdfmddomaaaDoor.AbsA
open Go AbsYtccimdfmddomaaaDoor Abs
set_option maxRecDepth 100000
set_option maxHeartbeats 4000000
set_option linter.unusedSimpArgs false
set_option linter.unusedVariables false
structure Act where
  k : Int
  n : Int
  s : ByteArray
def actC (a : Act) : List Value := [.int .i64 a.k, .int .i64 a.n, .string a.s]
theorem actC_len (a : Act) : (actC a).length = 3 := rfl
def actW (a : Act) : ByteArray ⊕ (Nat × Nat) := if a.k = 1 then numW a.n 1 else if a.k = 2 then numW a.n 2 else if a.k = 4 then numW a.n 4 else if a.k = 5 then varW a.n else if a.k = 6 then textW a.s else if a.k = 7 then binW a.s else if a.k = 8 then .inl a.s else .inl emp
theorem app_emp' (a : ByteArray) : a ++ emp = a := by
  apply ByteArray.ext
  simp [ByteArray.data_append, emp]
section
variable {σ : AHeap} {w : Nat} {b : ByteArray} {a : Act} {fp : List Nat} {Q : Value → AHeap → Prop}
end
end Go.Proofs.YtccimdfmddomaaaDoor.AbsA
namespace Go.Proofs.YtccimdfmddomaaaDoor.AbsA
open Go AbsYtccimdfmddomaaaDoor Abs
set_option maxRecDepth 100000
set_option maxHeartbeats 4000000
set_option linter.unusedSimpArgs false
set_option linter.unusedVariables false
/-- a list of things that lie in a slice which nobody writes -/
def DL {α : Type} (enc : α → List Value) (sz : Nat) (v : Value) (l : List α) : Prop := (l = [] ∧ v = .slice none 0 0) ∨ ∃ m, v = dsl m sz l.length (l.flatMap enc)
theorem DL.len {v : Value} {l : List Act} (h : DL actC 3 v l) (σ : AHeap) : abuiltin E σ .len [66] [v] = some (.int .i64 (l.length : Int), σ) := by
  rcases h with ⟨rfl, rfl⟩ | ⟨m, rfl⟩ <;> rfl
theorem DL.at {v : Value} {l : List Act} (h : DL actC 3 v l) {i : Nat} (hi : i < l.length) : aindexAddr E 66 v (.int .i64 (i : Int)) = some (dptr (actC l[i] ++ (l.drop (i + 1)).flatMap actC)) := by
  rcases h with ⟨rfl, rfl⟩ | ⟨m, rfl⟩
  · simp at hi
  · rw [ia_dsl hi, drop_flat actC_len hi]; rfl
end Go.Proofs.YtccimdfmddomaaaDoor.AbsA
namespace Go.Proofs.YtccimdfmddomaaaDoor.AbsA
open Go AbsYtccimdfmddomaaaDoor Abs
set_option maxRecDepth 100000
set_option maxHeartbeats 4000000
set_option linter.unusedSimpArgs false
set_option linter.unusedVariables false
/-- things in a slice that nobody writes, and that may grow; and where the token of going on lies -/
def DG {α : Type} (enc : α → List Value) (sz : Nat) (σ : AHeap) (v : Value) (l : List α) (fp : List Nat) : Prop :=
  (l = [] ∧ v = .slice none 0 0 ∧ fp = []) ∨ ∃ m, v = dsl m sz l.length (l.flatMap enc) ∧ ((m = 1 ∧ fp = []) ∨ ∃ t, m = t + 2 ∧ σ.get t = .cells [] true sz ∧ fp = [t])
theorem Kept.none {σ σ' : AHeap} {fp fp' : List Nat} (h : Kept σ fp σ' fp') : Kept σ fp σ' [] := ⟨h.get, fun _ h => by cases h⟩
theorem Kept.wid {σ σ' : AHeap} {fp fp' gp gp' : List Nat} (k : Kept σ fp σ' fp') (h1 : ∀ b ∈ fp, b ∈ gp) (h2 : ∀ b ∈ gp', b ∈ fp' ∨ b ∈ gp) : Kept σ gp σ' gp' where
  get b hb hn := k.get b hb fun h => hn (h1 b h)
  new b hb := by
    rcases h2 b hb with h | h
    · rcases k.new b h with h | h
      · exact .inl (h1 b h)
      · exact .inr h
    · exact .inl h
theorem Kept.tmp {σ : AHeap} {c : Nat} {o o' : AObj} (hc : σ.get c = .dead) : Kept σ [] ((σ.set c o).set c o') [] := ((Kept.new' hc).trans (Kept.set (by simp))).wid (fun _ h => h) fun _ h => .inr h
theorem Kept.le {σ σ' : AHeap} {fp : List Nat} (k : Kept σ [] σ' fp) : Le σ σ' := fun b hb => k.get b hb (by simp)
section
variable {α : Type} {enc : α → List Value} {sz : Nat} {σ σ' : AHeap} {v : Value} {l : List α} {fp : List Nat}
theorem DG.nil : DG enc sz σ (.slice none 0 0) ([] : List α) [] := .inl ⟨rfl, rfl, rfl⟩
theorem DG.kept {gp gp' : List Nat} (h : DG enc sz σ v l fp) (k : Kept σ gp σ' gp') (hd : ∀ b ∈ fp, b ∉ gp) : DG enc sz σ' v l fp := by
  rcases h with h | ⟨m, h1, h2⟩
  · exact .inl h
  · rcases h2 with h2 | ⟨t, h3, h4, h5⟩
    · exact .inr ⟨m, h1, .inl h2⟩
    · exact .inr ⟨m, h1, .inr ⟨t, h3, by rw [k.get t (by rw [h4]; simp) (hd t (by rw [h5]; simp))]; exact h4, h5⟩⟩
theorem DG.live (h : DG enc sz σ v l fp) : ∀ b ∈ fp, σ.get b ≠ .dead := by
  rcases h with ⟨_, _, rfl⟩ | ⟨m, _, ⟨_, rfl⟩ | ⟨t, _, h4, rfl⟩⟩ <;> intro b hb
  · cases hb
  · cases hb
  · obtain rfl := List.mem_singleton.1 hb; rw [h4]; simp
theorem DG.bare (h : DG enc sz σ v l fp) : DL enc sz (bare v) l := by
  rcases h with ⟨h1, rfl, _⟩ | ⟨m, rfl, _⟩
  · exact .inl ⟨h1, rfl⟩
  · exact .inr ⟨_, rfl⟩
theorem DG.dl (h : DG enc sz σ v l fp) : DL enc sz v l := by
  rcases h with ⟨h1, rfl, _⟩ | ⟨m, rfl, _⟩
  · exact .inl ⟨h1, rfl⟩
  · exact .inr ⟨_, rfl⟩
theorem bareL_app : ∀ (a b : List Value), bareL (a ++ b) = bareL a ++ bareL b
  | [], _ => rfl
  | v :: a, b => by show bare v :: bareL (a ++ b) = _; rw [bareL_app a b]; rfl
theorem bareL_flat (hb : ∀ a, bareL (enc a) = enc a) : ∀ l : List α, bareL (l.flatMap enc) = l.flatMap enc
  | [] => rfl
  | a :: l => by rw [List.flatMap_cons, bareL_app, hb, bareL_flat hb l]
theorem frzL_flat (hf : ∀ a, frzL E.ng E.nb (enc a) = true) : ∀ l : List α, frzL E.ng E.nb (l.flatMap enc) = true
  | [] => by simp [frzL]
  | a :: l => by rw [List.flatMap_cons]; exact AbsYtccimdfmddomaaaDoor.frzL_append (hf a) (frzL_flat hf l)
theorem oc_flat (ho : ∀ a, (enc a).all oneCell = true) (l : List α) : (l.flatMap enc).all oneCell = true := by
  rw [List.all_flatMap]
  rw [List.all_eq_true]
  intro a _
  exact ho a
theorem app_deep {K : Value → AHeap → Prop} {x : Value} {xs : List α} {t e u by_ a1 a2 : Nat} {z1 : Option (List ZV)} {q1 q2 : Bool} {k2 : TK} {zs : List ZV} {iu : TI}
    (ht : E.ty.get t = some ⟨.slice e, a1, a2, z1, q1⟩) (he : E.ty.get e = some ⟨k2, sz, by_, some zs, q2⟩) (hz : zs.length = sz) (hs0 : 0 < sz) (hby : 0 < by_) (hu : E.ty.get u = some iu) (hki : iu.k.isInt = false) (hdp : E.dp t = true)
    (hb : ∀ a, bareL (enc a) = enc a) (hf : ∀ a, frzL E.ng E.nb (enc a) = true) (ho : ∀ a, (enc a).all oneCell = true)
    (hv : DG enc sz σ v l fp) (hx : DL enc sz x xs) (hn : (l.length + xs.length) * by_ ≤ 140737488355328) (hq : ∀ σ' v' fp', Kept σ fp σ' fp' → DG enc sz σ' v' (l ++ xs) fp' → K v' σ') :
    afterOpS E B (some (.any fun b => aappend E (σ.resize b) [t, u] [v, x])) σ K := by
  intro b hb0
  have hbd : σ.get b = .dead := by
    rcases hg : σ.get b with _ | _ | _
    · rfl
    · exact absurd (hb0 b (by rw [hg]; simp)) (Nat.lt_irrefl _)
    · exact absurd (hb0 b (by rw [hg]; simp)) (Nat.lt_irrefl _)
  have hz5 : azero E e = some (zs.map ZV.val) := by unfold azero; rw [he]; rfl
  have hsrc : srcCells (σ.resize b) sz x = some (xs.length, xs.flatMap enc) := by
    rcases hx with ⟨rfl, rfl⟩ | ⟨m, rfl⟩
    · rfl
    · simp only [dsl, srcCells, if_true]
  have hbare := bareL_flat hb xs
  have hfz := frzL_flat hf xs
  have hoc := oc_flat ho xs
  have c0 : (sz == 0 || by_ == 0 || (zs.map ZV.val).length != sz || iu.k.isInt) = false := by
    rw [List.length_map, hz, hki]
    have h1 : (sz == 0) = false := by simp; omega
    have h2 : (by_ == 0) = false := by simp; omega
    rw [h1, h2]; simp
  have c0' : (decide (sz = 0) || decide (by_ = 0) || (zs.map ZV.val).length != sz || iu.k.isInt) = false := by
    rw [List.length_map, hz, hki]
    have h1 : decide (sz = 0) = false := by simp; omega
    have h2 : decide (by_ = 0) = false := by simp; omega
    rw [h1, h2]; simp
  have hnew : ∀ τ : AHeap, τ.size = b → (∀ c, c ∉ fp → τ.get c = σ.get c) → Kept σ fp ((deepNew τ sz (l.length + xs.length) ((l ++ xs).flatMap enc)).2.resize σ.size) [b] ∧ DG enc sz ((deepNew τ sz (l.length + xs.length) ((l ++ xs).flatMap enc)).2.resize σ.size) (deepNew τ sz (l.length + xs.length) ((l ++ xs).flatMap enc)).1 (l ++ xs) [b] := by
    intro τ hτ hg
    subst hτ
    refine ⟨⟨fun c hc hn => ?_, fun c hc => ?_⟩, .inr ⟨τ.size + 2, by simp only [deepNew, List.length_append], .inr ⟨τ.size, rfl, AHeap.get_alloc_same _ _, rfl⟩⟩⟩
    · show (τ.alloc _).get c = σ.get c
      rw [AHeap.get_alloc_ne _ _ (by rintro rfl; exact hc hbd)]
      exact hg c hn
    · obtain rfl := List.mem_singleton.1 hc; exact .inr hbd
  rcases hv with ⟨rfl, rfl, rfl⟩ | ⟨m, rfl, hm⟩
  · by_cases h0 : xs.length = 0
    · refine ⟨.slice none 0 0, σ.resize b, ?_, hq _ _ [] ⟨fun c _ _ => rfl, fun _ h => by cases h⟩ (.inl ⟨by rw [List.nil_append]; exact List.eq_nil_of_length_eq_zero h0, rfl, rfl⟩)⟩
      simp only [aappend, ht, hu, he, hz5, hsrc, c0, c0', h0, Bool.false_eq_true, if_false, if_true, decide_true]
      try simp
    · obtain ⟨g1, g2⟩ := hnew (σ.resize b) rfl (fun c _ => rfl)
      refine ⟨_, _, ?_, hq _ _ _ g1 g2⟩
      have c1 : xs.length * by_ ≤ 140737488355328 := by simpa using hn
      simp only [aappend, ht, hu, he, hz5, hsrc, c0, c0', h0, hoc, hbare, hfz, hdp, c1, Bool.false_eq_true, if_false, if_true, decide_true, Bool.and_self, List.nil_append, List.length_nil, Nat.zero_add]
  · by_cases h0 : xs.length = 0
    · refine ⟨_, σ.resize b, ?_, hq _ (dsl m sz l.length (l.flatMap enc)) fp ⟨fun c _ _ => rfl, fun _ h => .inl h⟩ (.inr ⟨m, by rw [List.eq_nil_of_length_eq_zero h0, List.append_nil], hm⟩)⟩
      simp only [aappend, ht, hu, he, hz5, hsrc, c0, c0', h0, dsl, Bool.false_eq_true, if_false, if_true, decide_true]
    · have c2 : (l.flatMap enc ++ xs.flatMap enc) = (l ++ xs).flatMap enc := by rw [List.flatMap_append]
      rcases hm with ⟨rfl, rfl⟩ | ⟨tk, rfl, hg, rfl⟩
      · obtain ⟨g1, g2⟩ := hnew (σ.resize b) rfl (fun c _ => rfl)
        refine ⟨_, _, ?_, hq _ _ _ g1 g2⟩
        simp only [aappend, ht, hu, he, hz5, hsrc, c0, c0', h0, dsl, hn, hoc, hbare, hfz, c2, Bool.false_eq_true, if_false, if_true, decide_true, Bool.and_self]
      · obtain ⟨g1, g2⟩ := hnew ((σ.resize b).set tk .dead) rfl (fun c hc => by rw [AHeap.get_set_ne _ _ (by rintro rfl; exact hc (by simp))]; rfl)
        refine ⟨_, _, ?_, hq _ _ _ g1 g2⟩
        simp only [aappend, ht, hu, he, hz5, hsrc, c0, c0', h0, dsl, hn, hoc, hbare, hfz, c2, get_resize, hg, Bool.false_eq_true, if_false, if_true, decide_true, Bool.and_self]
end
end Go.Proofs.YtccimdfmddomaaaDoor.AbsA
namespace Go.Proofs.YtccimdfmddomaaaDoor.AbsA
open Go AbsYtccimdfmddomaaaDoor Abs
set_option maxRecDepth 100000
set_option maxHeartbeats 4000000
set_option linter.unusedSimpArgs false
set_option linter.unusedVariables false
def resC (v : Option Value) (r : Option (List Value)) : Option (List Value) := match v, r with
  | some v, some r => some (v :: r)
  | _, _ => none
theorem res_cellc {E : Env} {H : AHeap} {n : Nat} {f : Nat → Value} {a t : Nat} {r : List ResultVar} : AbsYtccimdfmddomaaaDoor.results E (L n f) H (.cell a t :: r) = resC (aload E H t (if a < n then f a else undef)) (AbsYtccimdfmddomaaaDoor.results E (L n f) H r) := by
  have e : (L n f).getD a undef = if a < n then f a else undef := aev_tmp (t := a)
  simp only [AbsYtccimdfmddomaaaDoor.results, e]
  cases aload E H t (if a < n then f a else undef) <;> cases AbsYtccimdfmddomaaaDoor.results E (L n f) H r <;> rfl
theorem resC_some {v : Value} {r : List Value} : resC (some v) (some r) = some (v :: r) := rfl
/-- of the last of some states -/
def lastP (K : List Value → AHeap → Prop) : List (List Value × AHeap) → Prop
  | [] => False
  | [s] => K s.1 s.2
  | _ :: s :: l => lastP K (s :: l)
theorem lastP_cc {K : List Value → AHeap → Prop} {a b : List Value × AHeap} {l : List (List Value × AHeap)} : lastP K (a :: b :: l) = lastP K (b :: l) := rfl
theorem lastP_one {K : List Value → AHeap → Prop} {A : List Value} {H : AHeap} : lastP K [(A, H)] = K A H := rfl
theorem lastP_get {K : List Value → AHeap → Prop} : ∀ {l : List (List Value × AHeap)}, lastP K l → ∃ A H, l.getLast? = some (A, H) ∧ K A H
  | [], h => h.elim
  | [(A, H)], h => ⟨A, H, rfl, h⟩
  | _ :: s :: l, h => by
    obtain ⟨A, H, h1, h2⟩ := lastP_get (l := s :: l) h
    exact ⟨A, H, by rw [List.getLast?_cons_cons]; exact h1, h2⟩
theorem drawS_l {ops : Array Oper} {Q : AExit → List Value → AHeap → Prop} {tr : List (List Value × AHeap)} {fl : List (Nat × Nat)} (hf : floatPairs ops = fl) (h1 : fl.all (floatS B ops tr) = true) (h2 : lastP (Q .normal) tr) : drawS B ops Q tr := by
  obtain ⟨A, H, h3, h4⟩ := lastP_get h2
  exact drawS_of hf ⟨h1, A, H, h3, h4⟩
end Go.Proofs.YtccimdfmddomaaaDoor.AbsA
namespace Go.Proofs.YtccimdfmddomaaaDoor.AbsA
open Go AbsYtccimdfmddomaaaDoor Abs
set_option maxRecDepth 100000
set_option maxHeartbeats 4000000
set_option linter.unusedSimpArgs false
set_option linter.unusedVariables false
/-- a reader of fields: its bytes, its place, its error -/
def IsR (σ : AHeap) (r : Nat) (s : ByteArray) (p : Nat) (e : Value) : Prop := σ.get r = .cells [.string s, .int .i64 (p : Int), e] true 0
/-- reading: what is read and the place behind it, or the error's number and place -/
abbrev Rd (α : Type) := Except (Nat × Nat) (α × Nat)
def rawR (s : ByteArray) (p : Nat) (n : Int) : Rd ByteArray := if n < 0 then .error (4, p) else if s.size < p + n.toNat then .error (1, s.size) else .ok (s.extract p (p + n.toNat), p + n.toNat)
/-- a reader that failed -/
def RBad (σ : AHeap) (r : Nat) (s : ByteArray) (p k q : Nat) : Prop := ∃ d z, d ≤ 2 ∧ ErN d (fv 129 (q : Int) z) k ∧ IsR σ r s p (fv 129 (q : Int) z)
section
variable {σ : AHeap} {r p : Nat} {s : ByteArray} {Q : Value → AHeap → Prop}
theorem specRNew {Q : Value → AHeap → Prop} (h : ∀ r σ', σ.get r = .dead → Kept σ [] σ' [r] → IsR σ' r s 0 .nilIface → Q (.pointer (some ⟨r, 0, none⟩)) σ') : CallS E B 36 [.string s] σ Q := by
  refine call36 (by simp) ?_
  simp only [strip, bodyOf, Tryd.f36, getD_body, keepN, bareOp_mk, lessOp_mk, lapp_cons, lapp_nil, List.map_cons, List.map_nil, array_toList, ↓reduceIte, Nat.reduceEqDiff, Bool.false_eq_true]
  simp (disch := first | assumption | simp) only [↓sbD, sbU, tyB, Nat.reduceMul, Nat.reduceSub, Int.reduceEq, Int.reduceLT, Int.reduceLE, Int.reduceNe, Nat.reduceBneDiff, Nat.reduceBEq, decide_false, gt_iff_lt, Bool.or_self, Bool.false_eq_true, Nat.mul_one, Nat.one_mul, Nat.zero_mul, ↓reduceIte, Nat.reduceEqDiff, Nat.reduceLT, Nat.reduceAdd, Nat.reduceLeDiff, reduceCtorEq, goInt, pairs, isConst, TI.isAgg, splice, boxS, Edp, dpv, Nat.beq_eq, ZV.val, List.any_cons, List.any_nil, AS_new]
  intro r hr
  simp (disch := first | assumption | simp) only [↓sbD, sbU, tyB, Nat.reduceMul, Nat.reduceSub, Int.reduceEq, Int.reduceLT, Int.reduceLE, Int.reduceNe, Nat.reduceBneDiff, Nat.reduceBEq, decide_false, gt_iff_lt, Bool.or_self, Bool.false_eq_true, Nat.mul_one, Nat.one_mul, Nat.zero_mul, ↓reduceIte, Nat.reduceEqDiff, Nat.reduceLT, Nat.reduceAdd, Nat.reduceLeDiff, reduceCtorEq, goInt, pairs, isConst, TI.isAgg, splice, boxS, Edp, dpv, Nat.beq_eq, ZV.val, List.any_cons, List.any_nil]
  exact downS_here (h r _ hr (Kept.new' hr) (AHeap.get_set_same _ _ _))
theorem specROff (hr : IsR σ r s p .nilIface) (h : Q (.bool false) σ) : CallS E B 128 [.pointer (some ⟨r, 0, none⟩)] σ Q := by
  unfold IsR at hr
  refine call128 (by simp) ?_
  simp only [strip, bodyOf, Tryd.f128, getD_body, keepN, bareOp_mk, lessOp_mk, lapp_cons, lapp_nil, List.map_cons, List.map_nil, array_toList, ↓reduceIte, Nat.reduceEqDiff, Bool.false_eq_true]
  simp (disch := first | assumption | simp) only [↓sbD, sbU, tyB, Nat.reduceMul, Nat.reduceSub, Int.reduceEq, Int.reduceLT, Int.reduceLE, Int.reduceNe, Nat.reduceBneDiff, Nat.reduceBEq, decide_false, gt_iff_lt, Bool.or_self, Bool.false_eq_true, Nat.mul_one, Nat.one_mul, Nat.zero_mul, ↓reduceIte, Nat.reduceEqDiff, Nat.reduceLT, Nat.reduceAdd, Nat.reduceLeDiff, reduceCtorEq, goInt, pairs, isConst, TI.isAgg, splice, boxS, Edp, dpv, Nat.beq_eq, ZV.val, List.any_cons, List.any_nil, hr]
  exact downS_here h
theorem specROffE {u : Nat} {x : Value} (hr : IsR σ r s p (.iface u x)) (h : Q (.bool true) σ) : CallS E B 128 [.pointer (some ⟨r, 0, none⟩)] σ Q := by
  unfold IsR at hr
  refine call128 (by simp) ?_
  simp only [strip, bodyOf, Tryd.f128, getD_body, keepN, bareOp_mk, lessOp_mk, lapp_cons, lapp_nil, List.map_cons, List.map_nil, array_toList, ↓reduceIte, Nat.reduceEqDiff, Bool.false_eq_true]
  simp (disch := first | assumption | simp) only [↓sbD, sbU, tyB, Nat.reduceMul, Nat.reduceSub, Int.reduceEq, Int.reduceLT, Int.reduceLE, Int.reduceNe, Nat.reduceBneDiff, Nat.reduceBEq, decide_false, gt_iff_lt, Bool.or_self, Bool.false_eq_true, Nat.mul_one, Nat.one_mul, Nat.zero_mul, ↓reduceIte, Nat.reduceEqDiff, Nat.reduceLT, Nat.reduceAdd, Nat.reduceLeDiff, reduceCtorEq, goInt, pairs, isConst, TI.isAgg, splice, boxS, Edp, dpv, Nat.beq_eq, ZV.val, List.any_cons, List.any_nil, hr]
  exact downS_here h
theorem specRErr {e : Value} (hr : IsR σ r s p e) (h : Q e σ) : CallS E B 41 [.pointer (some ⟨r, 0, none⟩)] σ Q := by
  unfold IsR at hr
  refine call41 (by simp) ?_
  simp only [strip, bodyOf, Tryd.f41, getD_body, keepN, bareOp_mk, lessOp_mk, lapp_cons, lapp_nil, List.map_cons, List.map_nil, array_toList, ↓reduceIte, Nat.reduceEqDiff, Bool.false_eq_true]
  simp (disch := first | assumption | simp) only [↓sbD, sbU, tyB, Nat.reduceMul, Nat.reduceSub, Int.reduceEq, Int.reduceLT, Int.reduceLE, Int.reduceNe, Nat.reduceBneDiff, Nat.reduceBEq, decide_false, gt_iff_lt, Bool.or_self, Bool.false_eq_true, Nat.mul_one, Nat.one_mul, Nat.zero_mul, ↓reduceIte, Nat.reduceEqDiff, Nat.reduceLT, Nat.reduceAdd, Nat.reduceLeDiff, reduceCtorEq, goInt, pairs, isConst, TI.isAgg, splice, boxS, Edp, dpv, Nat.beq_eq, ZV.val, List.any_cons, List.any_nil, hr]
  exact downS_here h
theorem specRAt {e : Value} (hr : IsR σ r s p e) (h : Q (.int .i64 (p : Int)) σ) : CallS E B 49 [.pointer (some ⟨r, 0, none⟩)] σ Q := by
  unfold IsR at hr
  refine call49 (by simp) ?_
  simp only [strip, bodyOf, Tryd.f49, getD_body, keepN, bareOp_mk, lessOp_mk, lapp_cons, lapp_nil, List.map_cons, List.map_nil, array_toList, ↓reduceIte, Nat.reduceEqDiff, Bool.false_eq_true]
  simp (disch := first | assumption | simp) only [↓sbD, sbU, tyB, Nat.reduceMul, Nat.reduceSub, Int.reduceEq, Int.reduceLT, Int.reduceLE, Int.reduceNe, Nat.reduceBneDiff, Nat.reduceBEq, decide_false, gt_iff_lt, Bool.or_self, Bool.false_eq_true, Nat.mul_one, Nat.one_mul, Nat.zero_mul, ↓reduceIte, Nat.reduceEqDiff, Nat.reduceLT, Nat.reduceAdd, Nat.reduceLeDiff, reduceCtorEq, goInt, pairs, isConst, TI.isAgg, splice, boxS, Edp, dpv, Nat.beq_eq, ZV.val, List.any_cons, List.any_nil, hr]
  exact downS_here h
theorem specRLeft {e : Value} (hr : IsR σ r s p e) (hp : p ≤ s.size) (hs : s.size ≤ 1000000000) (h : Q (.int .i64 ((s.size - p : Nat) : Int)) σ) : CallS E B 39 [.pointer (some ⟨r, 0, none⟩)] σ Q := by
  unfold IsR at hr
  have hw : IntKind.i64.wrap ((s.size : Int) - (p : Int)) = ((s.size - p : Nat) : Int) := by rw [wrap64 ⟨by omega, by omega⟩]; omega
  refine call39 (by simp) ?_
  simp only [strip, bodyOf, Tryd.f39, getD_body, keepN, bareOp_mk, lessOp_mk, lapp_cons, lapp_nil, List.map_cons, List.map_nil, array_toList, ↓reduceIte, Nat.reduceEqDiff, Bool.false_eq_true]
  simp (disch := first | assumption | simp) only [↓sbD, sbU, tyB, Nat.reduceMul, Nat.reduceSub, Int.reduceEq, Int.reduceLT, Int.reduceLE, Int.reduceNe, Nat.reduceBneDiff, Nat.reduceBEq, decide_false, gt_iff_lt, Bool.or_self, Bool.false_eq_true, Nat.mul_one, Nat.one_mul, Nat.zero_mul, ↓reduceIte, Nat.reduceEqDiff, Nat.reduceLT, Nat.reduceAdd, Nat.reduceLeDiff, reduceCtorEq, goInt, pairs, isConst, TI.isAgg, splice, boxS, Edp, dpv, Nat.beq_eq, ZV.val, List.any_cons, List.any_nil, hr, hw]
  exact downS_here h
theorem specRDone (hr : IsR σ r s p .nilIface) (hp : p ≤ s.size) (hs : s.size ≤ 1000000000) (hend : p = s.size → Q .nilIface σ) (hmore : p < s.size → Q (fv 129 (p : Int) (sent 2)) σ) : CallS E B 38 [.pointer (some ⟨r, 0, none⟩)] σ Q := by
  have hr' := hr
  unfold IsR at hr'
  refine call38 (by simp) ?_
  simp only [strip, bodyOf, Tryd.f38, getD_body, keepN, bareOp_mk, lessOp_mk, lapp_cons, lapp_nil, List.map_cons, List.map_nil, array_toList, ↓reduceIte, Nat.reduceEqDiff, Bool.false_eq_true]
  simp (disch := first | assumption | simp) only [↓sbD, sbU, tyB, Nat.reduceMul, Nat.reduceSub, Int.reduceEq, Int.reduceLT, Int.reduceLE, Int.reduceNe, Nat.reduceBneDiff, Nat.reduceBEq, decide_false, gt_iff_lt, Bool.or_self, Bool.false_eq_true, Nat.mul_one, Nat.one_mul, Nat.zero_mul, ↓reduceIte, Nat.reduceEqDiff, Nat.reduceLT, Nat.reduceAdd, Nat.reduceLeDiff, reduceCtorEq, goInt, pairs, isConst, TI.isAgg, splice, boxS, Edp, dpv, Nat.beq_eq, ZV.val, List.any_cons, List.any_nil]
  refine specRErr hr ?_
  simp (disch := first | assumption | simp) only [↓sbD, sbU, tyB, Nat.reduceMul, Nat.reduceSub, Int.reduceEq, Int.reduceLT, Int.reduceLE, Int.reduceNe, Nat.reduceBneDiff, Nat.reduceBEq, decide_false, gt_iff_lt, Bool.or_self, Bool.false_eq_true, Nat.mul_one, Nat.one_mul, Nat.zero_mul, ↓reduceIte, Nat.reduceEqDiff, Nat.reduceLT, Nat.reduceAdd, Nat.reduceLeDiff, reduceCtorEq, goInt, pairs, isConst, TI.isAgg, splice, boxS, Edp, dpv, Nat.beq_eq, ZV.val, List.any_cons, List.any_nil]
  refine specRLeft hr hp hs ?_
  by_cases h0 : (0 : Int) < ((s.size - p : Nat) : Int)
  · simp (disch := first | assumption | simp) only [↓sbD, sbU, tyB, Nat.reduceMul, Nat.reduceSub, Int.reduceEq, Int.reduceLT, Int.reduceLE, Int.reduceNe, Nat.reduceBneDiff, Nat.reduceBEq, decide_false, gt_iff_lt, Bool.or_self, Bool.false_eq_true, Nat.mul_one, Nat.one_mul, Nat.zero_mul, ↓reduceIte, Nat.reduceEqDiff, Nat.reduceLT, Nat.reduceAdd, Nat.reduceLeDiff, reduceCtorEq, goInt, pairs, isConst, TI.isAgg, splice, boxS, Edp, dpv, Nat.beq_eq, ZV.val, List.any_cons, List.any_nil, h0, hr', gk2]
    refine specNew (n := 2) ⟨by omega, by omega⟩ ?_
    simp (disch := first | assumption | simp) only [↓sbD, sbU, tyB, Nat.reduceMul, Nat.reduceSub, Int.reduceEq, Int.reduceLT, Int.reduceLE, Int.reduceNe, Nat.reduceBneDiff, Nat.reduceBEq, decide_false, gt_iff_lt, Bool.or_self, Bool.false_eq_true, Nat.mul_one, Nat.one_mul, Nat.zero_mul, ↓reduceIte, Nat.reduceEqDiff, Nat.reduceLT, Nat.reduceAdd, Nat.reduceLeDiff, reduceCtorEq, goInt, pairs, isConst, TI.isAgg, splice, boxS, Edp, dpv, Nat.beq_eq, ZV.val, List.any_cons, List.any_nil]
    exact downS_here (hmore (by omega))
  · simp (disch := first | assumption | simp) only [↓sbD, sbU, tyB, Nat.reduceMul, Nat.reduceSub, Int.reduceEq, Int.reduceLT, Int.reduceLE, Int.reduceNe, Nat.reduceBneDiff, Nat.reduceBEq, decide_false, gt_iff_lt, Bool.or_self, Bool.false_eq_true, Nat.mul_one, Nat.one_mul, Nat.zero_mul, ↓reduceIte, Nat.reduceEqDiff, Nat.reduceLT, Nat.reduceAdd, Nat.reduceLeDiff, reduceCtorEq, goInt, pairs, isConst, TI.isAgg, splice, boxS, Edp, dpv, Nat.beq_eq, ZV.val, List.any_cons, List.any_nil, h0]
    refine specRErr hr ?_
    simp (disch := first | assumption | simp) only [↓sbD, sbU, tyB, Nat.reduceMul, Nat.reduceSub, Int.reduceEq, Int.reduceLT, Int.reduceLE, Int.reduceNe, Nat.reduceBneDiff, Nat.reduceBEq, decide_false, gt_iff_lt, Bool.or_self, Bool.false_eq_true, Nat.mul_one, Nat.one_mul, Nat.zero_mul, ↓reduceIte, Nat.reduceEqDiff, Nat.reduceLT, Nat.reduceAdd, Nat.reduceLeDiff, reduceCtorEq, goInt, pairs, isConst, TI.isAgg, splice, boxS, Edp, dpv, Nat.beq_eq, ZV.val, List.any_cons, List.any_nil]
    exact downS_here (hend (by omega))
theorem specBack (hr : IsR σ r s p .nilIface) {q : Int} (h : Q unit σ) : CallS E B 129 [.pointer (some ⟨r, 0, none⟩), .int .i64 q] σ Q := by
  unfold IsR at hr
  refine call129 (by simp) ?_
  simp only [strip, bodyOf, Tryd.f129, getD_body, keepN, bareOp_mk, lessOp_mk, lapp_cons, lapp_nil, List.map_cons, List.map_nil, array_toList, ↓reduceIte, Nat.reduceEqDiff, Bool.false_eq_true]
  simp (disch := first | assumption | simp) only [↓sbD, sbU, tyB, Nat.reduceMul, Nat.reduceSub, Int.reduceEq, Int.reduceLT, Int.reduceLE, Int.reduceNe, Nat.reduceBneDiff, Nat.reduceBEq, decide_false, gt_iff_lt, Bool.or_self, Bool.false_eq_true, Nat.mul_one, Nat.one_mul, Nat.zero_mul, ↓reduceIte, Nat.reduceEqDiff, Nat.reduceLT, Nat.reduceAdd, Nat.reduceLeDiff, reduceCtorEq, goInt, pairs, isConst, TI.isAgg, splice, boxS, Edp, dpv, Nat.beq_eq, ZV.val, List.any_cons, List.any_nil, hr]
  exact downS_here h
theorem specBackE {u q : Nat} {x : Value} (hr : IsR σ r s p (.iface u x)) (h : ∀ σ', Kept σ [r] σ' [r] → IsR σ' r s q (.iface u x) → Q unit σ') : CallS E B 129 [.pointer (some ⟨r, 0, none⟩), .int .i64 (q : Int)] σ Q := by
  unfold IsR at hr
  refine call129 (by simp) ?_
  simp only [strip, bodyOf, Tryd.f129, getD_body, keepN, bareOp_mk, lessOp_mk, lapp_cons, lapp_nil, List.map_cons, List.map_nil, array_toList, ↓reduceIte, Nat.reduceEqDiff, Bool.false_eq_true]
  simp (disch := first | assumption | simp) only [↓sbD, sbU, tyB, Nat.reduceMul, Nat.reduceSub, Int.reduceEq, Int.reduceLT, Int.reduceLE, Int.reduceNe, Nat.reduceBneDiff, Nat.reduceBEq, decide_false, gt_iff_lt, Bool.or_self, Bool.false_eq_true, Nat.mul_one, Nat.one_mul, Nat.zero_mul, ↓reduceIte, Nat.reduceEqDiff, Nat.reduceLT, Nat.reduceAdd, Nat.reduceLeDiff, reduceCtorEq, goInt, pairs, isConst, TI.isAgg, splice, boxS, Edp, dpv, Nat.beq_eq, ZV.val, List.any_cons, List.any_nil, hr]
  exact downS_here (h _ (Kept.set (by simp)) (AHeap.get_set_same _ _ _))
theorem slice_str {t : Nat} {a b z q} (ht : E.ty.get t = some ⟨.string, a, b, z, q⟩) {s : ByteArray} {lo hi : Nat} (h1 : lo ≤ hi) (h2 : hi ≤ s.size) : aslice E σ t (.string s) (some (.int .i64 (lo : Int))) (some (.int .i64 (hi : Int))) none = some (.string (s.extract lo hi)) := by
  have c1 : (0 : Int) ≤ (hi : Int) := by omega
  have c2 : (0 : Int) ≤ (lo : Int) := by omega
  simp [aslice, ht, abound, h1, h2]
theorem specRRaw {n : Int} (hr : IsR σ r s p .nilIface) (hp : p ≤ s.size) (hs : s.size ≤ 1000000000)
    (hok : ∀ v q, rawR s p n = .ok (v, q) → ∀ σ', Kept σ [r] σ' [r] → IsR σ' r s q .nilIface → Q (.string v) σ')
    (hbad : ∀ k q, rawR s p n = .error (k, q) → ∀ σ', Kept σ [r] σ' [r] → RBad σ' r s p k q → Q (.string emp) σ') : CallS E B 92 [.pointer (some ⟨r, 0, none⟩), .int .i64 n] σ Q := by
  have hr' := hr
  unfold IsR at hr'
  have hw : IntKind.i64.wrap ((s.size : Int) - (p : Int)) = (s.size : Int) - (p : Int) := wrap64 ⟨by omega, by omega⟩
  refine call92 (by simp) ?_
  simp only [strip, bodyOf, Tryd.f92, getD_body, keepN, bareOp_mk, lessOp_mk, lapp_cons, lapp_nil, List.map_cons, List.map_nil, array_toList, ↓reduceIte, Nat.reduceEqDiff, Bool.false_eq_true]
  simp (disch := first | assumption | simp) only [↓sbD, sbU, tyB, Nat.reduceMul, Nat.reduceSub, Int.reduceEq, Int.reduceLT, Int.reduceLE, Int.reduceNe, Nat.reduceBneDiff, Nat.reduceBEq, decide_false, gt_iff_lt, Bool.or_self, Bool.false_eq_true, Nat.mul_one, Nat.one_mul, Nat.zero_mul, ↓reduceIte, Nat.reduceEqDiff, Nat.reduceLT, Nat.reduceAdd, Nat.reduceLeDiff, reduceCtorEq, goInt, pairs, isConst, TI.isAgg, splice, boxS, Edp, dpv, Nat.beq_eq, ZV.val, List.any_cons, List.any_nil]
  refine specROff hr ?_
  by_cases h0 : n < 0
  · simp (disch := first | assumption | simp) only [↓sbD, sbU, tyB, Nat.reduceMul, Nat.reduceSub, Int.reduceEq, Int.reduceLT, Int.reduceLE, Int.reduceNe, Nat.reduceBneDiff, Nat.reduceBEq, decide_false, gt_iff_lt, Bool.or_self, Bool.false_eq_true, Nat.mul_one, Nat.one_mul, Nat.zero_mul, ↓reduceIte, Nat.reduceEqDiff, Nat.reduceLT, Nat.reduceAdd, Nat.reduceLeDiff, reduceCtorEq, goInt, pairs, isConst, TI.isAgg, splice, boxS, Edp, dpv, Nat.beq_eq, ZV.val, List.any_cons, List.any_nil, h0, hr', gk4]
    refine specNew (n := 4) ⟨by omega, by omega⟩ ?_
    simp (disch := first | assumption | simp) only [↓sbD, sbU, tyB, Nat.reduceMul, Nat.reduceSub, Int.reduceEq, Int.reduceLT, Int.reduceLE, Int.reduceNe, Nat.reduceBneDiff, Nat.reduceBEq, decide_false, gt_iff_lt, Bool.or_self, Bool.false_eq_true, Nat.mul_one, Nat.one_mul, Nat.zero_mul, ↓reduceIte, Nat.reduceEqDiff, Nat.reduceLT, Nat.reduceAdd, Nat.reduceLeDiff, reduceCtorEq, goInt, pairs, isConst, TI.isAgg, splice, boxS, Edp, dpv, Nat.beq_eq, ZV.val, List.any_cons, List.any_nil, hr']
    refine downS_here (hbad 4 p (by unfold rawR; rw [if_pos h0]) _ (Kept.set (by simp)) ⟨1, _, by omega, ErN.new _ _ ⟨by omega, by omega⟩, AHeap.get_set_same _ _ _⟩)
  · by_cases h1 : (s.size : Int) - (p : Int) < n
    · simp (disch := first | assumption | simp) only [↓sbD, sbU, tyB, Nat.reduceMul, Nat.reduceSub, Int.reduceEq, Int.reduceLT, Int.reduceLE, Int.reduceNe, Nat.reduceBneDiff, Nat.reduceBEq, decide_false, gt_iff_lt, Bool.or_self, Bool.false_eq_true, Nat.mul_one, Nat.one_mul, Nat.zero_mul, ↓reduceIte, Nat.reduceEqDiff, Nat.reduceLT, Nat.reduceAdd, Nat.reduceLeDiff, reduceCtorEq, goInt, pairs, isConst, TI.isAgg, splice, boxS, Edp, dpv, Nat.beq_eq, ZV.val, List.any_cons, List.any_nil, h0, hr', hw, h1, gk1]
      refine specNew (n := 1) ⟨by omega, by omega⟩ ?_
      simp (disch := first | assumption | simp) only [↓sbD, sbU, tyB, Nat.reduceMul, Nat.reduceSub, Int.reduceEq, Int.reduceLT, Int.reduceLE, Int.reduceNe, Nat.reduceBneDiff, Nat.reduceBEq, decide_false, gt_iff_lt, Bool.or_self, Bool.false_eq_true, Nat.mul_one, Nat.one_mul, Nat.zero_mul, ↓reduceIte, Nat.reduceEqDiff, Nat.reduceLT, Nat.reduceAdd, Nat.reduceLeDiff, reduceCtorEq, goInt, pairs, isConst, TI.isAgg, splice, boxS, Edp, dpv, Nat.beq_eq, ZV.val, List.any_cons, List.any_nil, hr']
      refine downS_here (hbad 1 s.size (by unfold rawR; rw [if_neg h0, if_pos (by omega)]) _ (Kept.set (by simp)) ⟨1, _, by omega, ErN.new _ _ ⟨by omega, by omega⟩, AHeap.get_set_same _ _ _⟩)
    · obtain ⟨N, rfl⟩ : ∃ N : Nat, n = N := ⟨n.toNat, by omega⟩
      have hw2 : IntKind.i64.wrap ((p : Int) + (N : Int)) = ((p + N : Nat) : Int) := by rw [wrap64 ⟨by omega, by omega⟩]; omega
      have hsl := slice_str (σ := σ) ty9 (s := s) (lo := p) (hi := p + N) (by omega) (by omega)
      simp (disch := first | assumption | simp) only [↓sbD, sbU, tyB, Nat.reduceMul, Nat.reduceSub, Int.reduceEq, Int.reduceLT, Int.reduceLE, Int.reduceNe, Nat.reduceBneDiff, Nat.reduceBEq, decide_false, gt_iff_lt, Bool.or_self, Bool.false_eq_true, Nat.mul_one, Nat.one_mul, Nat.zero_mul, ↓reduceIte, Nat.reduceEqDiff, Nat.reduceLT, Nat.reduceAdd, Nat.reduceLeDiff, reduceCtorEq, goInt, pairs, isConst, TI.isAgg, splice, boxS, Edp, dpv, Nat.beq_eq, ZV.val, List.any_cons, List.any_nil, h0, hr', hw, h1, hw2, hsl]
      exact downS_here (hok _ _ (by unfold rawR; rw [if_neg h0, if_neg (by omega)]; rfl) _ (Kept.set (by simp)) (AHeap.get_set_same _ _ _))
theorem specRRawE {n : Int} {u : Nat} {x : Value} (hr : IsR σ r s p (.iface u x)) (h : Q (.string emp) σ) : CallS E B 92 [.pointer (some ⟨r, 0, none⟩), .int .i64 n] σ Q := by
  refine call92 (by simp) ?_
  simp only [strip, bodyOf, Tryd.f92, getD_body, keepN, bareOp_mk, lessOp_mk, lapp_cons, lapp_nil, List.map_cons, List.map_nil, array_toList, ↓reduceIte, Nat.reduceEqDiff, Bool.false_eq_true]
  simp (disch := first | assumption | simp) only [↓sbD, sbU, tyB, Nat.reduceMul, Nat.reduceSub, Int.reduceEq, Int.reduceLT, Int.reduceLE, Int.reduceNe, Nat.reduceBneDiff, Nat.reduceBEq, decide_false, gt_iff_lt, Bool.or_self, Bool.false_eq_true, Nat.mul_one, Nat.one_mul, Nat.zero_mul, ↓reduceIte, Nat.reduceEqDiff, Nat.reduceLT, Nat.reduceAdd, Nat.reduceLeDiff, reduceCtorEq, goInt, pairs, isConst, TI.isAgg, splice, boxS, Edp, dpv, Nat.beq_eq, ZV.val, List.any_cons, List.any_nil]
  refine specROffE hr ?_
  simp (disch := first | assumption | simp) only [↓sbD, sbU, tyB, Nat.reduceMul, Nat.reduceSub, Int.reduceEq, Int.reduceLT, Int.reduceLE, Int.reduceNe, Nat.reduceBneDiff, Nat.reduceBEq, decide_false, gt_iff_lt, Bool.or_self, Bool.false_eq_true, Nat.mul_one, Nat.one_mul, Nat.zero_mul, ↓reduceIte, Nat.reduceEqDiff, Nat.reduceLT, Nat.reduceAdd, Nat.reduceLeDiff, reduceCtorEq, goInt, pairs, isConst, TI.isAgg, splice, boxS, Edp, dpv, Nat.beq_eq, ZV.val, List.any_cons, List.any_nil]
  exact downS_here h
end
end Go.Proofs.YtccimdfmddomaaaDoor.AbsA
