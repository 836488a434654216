/-
  Operations: appends, makes, conversions between bytes and strings.
-/
import Derived.Test.YtlmcjfnignbdoaaAOps4
import Derived.Laws.BytesString
namespace AbsYtlmcjfnignbdoaa
set_option linter.unusedVariables false
set_option linter.unusedSimpArgs false
set_option linter.unusedSectionVars false
open Go

section
variable {E : Env} {ι : Emb} {H H' : AHeap} {w : World}

theorem takeCells_parts {b o n : Nat} {l : List Value} (h : takeCells H b o n = some l) : ∃ cs wr sz, H.get b = .cells cs wr sz ∧ o + n ≤ cs.length ∧ l = (cs.drop o).take n := by
  unfold takeCells at h
  split at h
  · rename_i cs wr sz hg
    split at h
    · rename_i hl; simp at h; exact ⟨cs, wr, sz, hg, hl, h.symm⟩
    · simp at h
  · simp at h

theorem takeCells_sim {P : Program} (h : Rel E ι H w) {b o n : Nat} {l : Loc} {vs : List Value} (hb : ι b = some l) (ht : takeCells H b o n = some vs) :
    ∃ vs', (loadCells ⟨l.blk, l.base + o, none⟩ n).run P w = .ok ⟨vs'⟩ w ∧ RVs ι vs vs' ∧ vs.length = n := by
  obtain ⟨cs, wr, sz, hg, hl, rfl⟩ := takeCells_parts ht
  obtain ⟨C, ty, fz, h1, h2, h3, h4, h5, h6, h7⟩ := h.cells _ _ _ _ _ hb hg
  exact ⟨_, run_loadCells' h1 (by omega), h5.slice hl, by simp; omega⟩

theorem loadCells_zero {P : Program} (a : Addr) (w : World) : (loadCells a 0).run P w = .ok #[] w := rfl

theorem srcCells_sim (h : Rel E ι H w) {size k : Nat} {x x' : Value} {vs : List Value} (hx : RV ι x x') (hs : srcCells H size x = some (k, vs)) :
    (Builtin.lenOf x').run E.P w = .ok k w ∧ ∃ vs', (Builtin.firstCells size k x').run E.P w = .ok ⟨vs'⟩ w ∧ RVs ι vs vs' ∧ vs.length = k * size := by
  unfold srcCells at hs
  split at hs
  · simp at hs; obtain ⟨rfl, rfl⟩ := hs
    cases hx
    exact ⟨rfl, [], rfl, .nil, by simp⟩
  · rename_i b o ex n c
    cases ht : takeCells H b o (n * size) with
    | none => simp [ht] at hs
    | some l =>
      simp [ht] at hs; obtain ⟨rfl, rfl⟩ := hs
      cases hx with
      | sliceU _ _ _ _ c' lc hb _ _ _ =>
        obtain ⟨vs', h1, h2, h3⟩ := takeCells_sim (P := E.P) h hb ht
        exact ⟨rfl, vs', h1, h2, h3⟩
      | sliceX _ _ _ _ lc hb _ _ =>
        obtain ⟨vs', h1, h2, h3⟩ := takeCells_sim (P := E.P) h hb ht
        exact ⟨rfl, vs', h1, h2, h3⟩
      | sliceUZ _ _ a' lc hb =>
        obtain ⟨cs, wr, sz, _, _, rfl⟩ := takeCells_parts ht
        refine ⟨rfl, [], ?_, ?_, by simp⟩
        · simp only [Builtin.firstCells, Nat.zero_mul]; rfl
        · simp; exact .nil
      | sliceXZ _ _ a' lc hb =>
        obtain ⟨cs, wr, sz, _, _, rfl⟩ := takeCells_parts ht
        refine ⟨rfl, [], ?_, ?_, by simp⟩
        · simp only [Builtin.firstCells, Nat.zero_mul]; rfl
        · simp; exact .nil
  · rename_i s
    split at hs
    · rename_i h1
      simp at hs; obtain ⟨rfl, rfl⟩ := hs
      cases hx
      subst h1
      refine ⟨rfl, s.data.toList.map fun b => .int .u8 b.toNat, ?_, RVs.map_val _ _ _ fun a _ => .int _ _, by simp⟩
      have he : s.extract 0 s.size = s := by
        apply ByteArray.ext
        simp
      simp only [Builtin.firstCells, Sem.run_pure, he]
      congr 1
      apply Array.ext'
      simp
    · simp at hs
  · simp at hs

theorem notInt {du : TypeDesc} (h : ∀ k, du ≠ .int k) : (match (generalizing := false) du with | .int _ => true | _ => false) = false := by
  cases du <;> first | rfl | exact absurd rfl (h _)

/-- 'append' where there is room -/
theorem run_append_in {P : Program} {t u ty e sz sLen sCap n : Nat} {du : TypeDesc} {base : Option Addr} {x : Value} {new : List Value} {w' : World} (ht : P.underlying t = some (.slice e)) (hu : P.underlying u = some du) (hdu : ∀ k, du ≠ .int k)
    (hsz : ∀ w, (Go.sizeOf e).run P w = .ok sz w) (hlen : (Builtin.lenOf x).run P w = .ok n w) (hnew : (Builtin.firstCells sz n x).run P w = .ok ⟨new⟩ w) (hroom : sLen + n ≤ sCap)
    (hst : (match base with | some a => storeCells (a.add (sLen * sz)) new | none => pure ()).run P w = .ok () w') :
    (Builtin.append_ #[t, u] ty #[.slice base sLen sCap, x]).run P w = .ok (.slice base (sLen + n) sCap) w' := by
  have hz' : (match (generalizing := false) du with | .int _ => true | _ => false) = false := notInt hdu
  simp only [Builtin.append_, List.getElem?_toArray, List.getElem?_cons_zero, List.getElem?_cons_succ, Sem.run_bind, run_und' w ht, Result.andThen_ok, hsz, run_und' w hu, hz', Sem.run_pure, Bool.false_eq_true, if_false,
    hlen, Bool.not_false, if_true, if_pos hroom, hnew]
  cases base with
  | none => simp at hst; subst hst; rfl
  | some a => simp only [Sem.run_bind]; rw [hst]; rfl

/-- 'append' where there is none -/
theorem run_append_out {P : Program} {t u ty e sz by_ sLen sCap n : Nat} {du : TypeDesc} {inf : TypeInfo} {z : Value} {s x : Value} {base : Option Addr} {old new : List Value} (hs : s = .slice base sLen sCap) (ht : P.underlying t = some (.slice e)) (hu : P.underlying u = some du) (hdu : ∀ k, du ≠ .int k)
    (hsz : ∀ w, (Go.sizeOf e).run P w = .ok sz w) (hinf : ∀ w, (typeInfo e).run P w = .ok inf w) (hby : inf.bytes = by_) (hz : ∀ w, (zeroValue e).run P w = .ok z w) (hlen : (Builtin.lenOf x).run P w = .ok n w)
    (hold : (Builtin.firstCells sz sLen s).run P w.drew = .ok ⟨old⟩ w.drew) (hnew : (Builtin.firstCells sz n x).run P w.drew = .ok ⟨new⟩ w.drew) (hroom : ¬ sLen + n ≤ sCap)
    (hb0 : by_ ≠ 0) (hfit : (sLen + n) * by_ ≤ 140737488355328) :
    ∃ cap, sLen + n ≤ cap ∧ (Builtin.append_ #[t, u] ty #[s, x]).run P w =
      .ok (.slice (some ⟨w.heap.size, 0, none⟩) (sLen + n) cap) (w.drew.alloc (.cells (⟨old⟩ ++ ⟨new⟩ ++ Builtin.zeroCells z.cells (cap - (sLen + n))) e)) := by
  subst hs
  have hz1 : (match (generalizing := false) du with | .int _ => true | _ => false) = false := notInt hdu
  have hf := growslice_fits (need := sLen + n) (old := sCap) (bytes := by_) (by omega) hfit
  have h48 : ¬ (Builtin.nextslicecap (sLen + n) sCap * by_ > 2 ^ 48) := by omega
  have h63 : ¬ (((sLen + n : Nat) : Int) > IntKind.i64.max ∧ (False ∨ by_ = 0)) := by
    rintro ⟨_, h | h⟩
    · exact h
    · exact hb0 h
  refine ⟨(Question.appendCap (sLen + n) sCap e).cut (w.tape w.drawn (.appendCap (sLen + n) sCap e)), ?_, ?_⟩
  · simp only [Question.cut]; omega
  · simp only [Builtin.append_, List.getElem?_toArray, List.getElem?_cons_zero, List.getElem?_cons_succ, Sem.run_bind, run_und' w ht, Result.andThen_ok, hsz, run_und' w hu, hz1, Sem.run_pure, Bool.false_eq_true, if_false,
      hlen, if_neg hroom, hinf, hby, if_neg h63, if_neg h48, run_choose, Question.forced]
    have hd : ({ w with drawn := w.drawn + 1 } : World) = w.drew := rfl
    simp only [hd, run_askRoom, Result.andThen_ok, Bool.not_false, if_true, Sem.run_bind]
    rw [hold]
    simp only [Result.andThen_ok]
    rw [hnew]
    simp only [Result.andThen_ok, hz, newRow, Sem.run_bind, Go.run_newObj, Sem.run_pure]
    rfl

theorem zeroCells_size (z : Array Value) (n : Nat) : (Builtin.zeroCells z n).size = n * z.size := by simp [Builtin.zeroCells]

set_option maxHeartbeats 2000000 in
theorem aappend_sim (hE : TyOk E) (h : Rel E ι H w) (hfree : ι H.size = none) {t u ty : Nat} {s s' x x' v : Value} (hs : RV ι s s') (hx : RV ι x x') (ha : aappend E H [t, u] [s, x] = some (v, H')) :
    ∃ v' w' ι', (Builtin.append_ #[t, u] ty #[s', x']).run E.P w = .ok v' w' ∧ RV ι' v v' ∧ Rel E ι' H' w' ∧ Step ι H w ι' H' w' := by
  unfold aappend at ha
  simp only at ha
  split at ha
  rotate_left
  · simp at ha
  rename_i e _ _ _ _ iu ht hu
  obtain ⟨inft, d, ht1, ht2, ht3, ht4, ht5, ht6, ht7⟩ := ti_parts hE ht
  obtain rfl := tk_slice ht3
  obtain ⟨infu, du, hu1, hu2, hu3, hu4, hu5, hu6, hu7⟩ := ti_parts hE hu
  split at ha
  rotate_left
  · simp at ha
  rename_i j z hj hz
  obtain ⟨j', zs, hj', hzs, rfl⟩ := azero_of hz
  rw [hj] at hj'; simp at hj'; subst hj'
  obtain ⟨infe, de, he1, he2, he3, he4, he5, he6, he7⟩ := ti_parts hE hj
  obtain ⟨zv, hz1, hz2, hz9⟩ := he6 zs hzs
  have hz3 : ∀ w, (zeroValue e).run E.P w = .ok zv w := fun w => by simp [zeroValue, typeInfo, he1, hz1]
  have hinf : ∀ w, (typeInfo e).run E.P w = .ok infe w := fun w => by simp [typeInfo, he1]
  have hsz := run_sizeOf' hE hj
  split at ha
  · simp at ha
  rename_i hcond
  simp only [Bool.or_eq_true, decide_eq_true_eq, bne_iff_ne, not_or, ne_eq, Decidable.not_not] at hcond
  obtain ⟨⟨⟨hj0, hb0⟩, hzl⟩, hint⟩ := hcond
  have hzsize : zv.cells.size = j.size := by
    have : zv.cells.toList.length = j.size := by rw [hz2]; simpa using hzl
    simpa using this
  have hdu : ∀ k, du ≠ .int k := fun k e => by
    subst e
    rw [← hu3] at hint
    simp [tkOf, TK.isInt] at hint
  split at ha
  · simp at ha
  rename_i k new hsrc
  obtain ⟨hlen, new', hnew, hnr, hnl⟩ := srcCells_sim h hx hsrc
  have hnl' := hnr.length
  have hdrew : Rel E ι H w.drew := h.world rfl
  -- where the old cells lie, and what becomes of them
  have grow : ∀ {s' : Value} {base : Option Addr} {sLen sCap : Nat} {old old' : List Value} {H0 : AHeap}, s' = .slice base sLen sCap → (Builtin.firstCells j.size sLen s').run E.P w.drew = .ok ⟨old'⟩ w.drew → RVs ι old old' →
      old.length = sLen * j.size → ¬ sLen + k ≤ sCap → (sLen + k) * j.bytes ≤ 140737488355328 → Rel E ι H0 w → ι H0.size = none → Step ι H w ι H0 w → (old ++ new).all oneCell = true ∨ True →
      ∃ v' w' ι', (Builtin.append_ #[t, u] ty #[s', x']).run E.P w = .ok v' w' ∧ RV ι' (.slice (some ⟨H0.size, 0, none⟩) (sLen + k) (sLen + k)) v' ∧ Rel E ι' (H0.alloc (.cells (old ++ new) true j.size)) w' ∧
        Step ι H w ι' (H0.alloc (.cells (old ++ new) true j.size)) w' := by
    intro s' base sLen sCap old old' H0 hs' hold hor hol hroom hfit h0 hfree0 hst0 _
    obtain ⟨_, new2, hnewd, hnr2, _⟩ := srcCells_sim hdrew hx hsrc
    obtain ⟨cap, hcap, hrun⟩ := run_append_out (ty := ty) hs' ht2 hu2 hdu hsz hinf he5 hz3 hlen hold hnewd hroom hb0 hfit
    have hcells := hor.append hnr2
    have hcl := hcells.length
    have hall : (⟨old'⟩ ++ ⟨new2⟩ ++ Builtin.zeroCells zv.cells (cap - (sLen + k)) : Array Value) = ⟨(old' ++ new2) ++ (Builtin.zeroCells zv.cells (cap - (sLen + k))).toList⟩ := by
      apply Array.ext'; simp
    have hlen2 : (old ++ new).length = (sLen + k) * j.size := by rw [List.length_append, hol, hnl, Nat.add_mul]
    have htot : (⟨(old' ++ new2) ++ (Builtin.zeroCells zv.cells (cap - (sLen + k))).toList⟩ : Array Value).size = cap * j.size := by
      have e1 : (old' ++ new2).length = (sLen + k) * j.size := by rw [← hcl, hlen2]
      have e2 := zeroCells_size zv.cells (cap - (sLen + k))
      simp only [List.size_toArray, List.length_append] at e1 ⊢
      simp only [Array.length_toList, e2, hzsize]
      rw [e1, ← Nat.add_mul]; congr 1; omega
    have hd0 : Rel E ι H0 w.drew := h0.world rfl
    obtain ⟨hR, hS⟩ := hd0.alloc hfree0 (cs := old ++ new) (wr := true) (sz := j.size) (C := ⟨(old' ++ new2) ++ (Builtin.zeroCells zv.cells (cap - (sLen + k))).toList⟩) (ty := e) (fz := (0, 0))
      (fun i v hv => by
        obtain ⟨v', h3, h4⟩ := hcells.get i v hv
        refine ⟨v', ?_, h4⟩
        have : i < (old' ++ new2).length := by
          rcases Nat.lt_or_ge i (old' ++ new2).length with h9 | h9
          · exact h9
          · rw [List.getElem?_eq_none h9] at h3; simp at h3
        simp only [Nat.zero_add, List.getElem?_toArray]
        rw [List.getElem?_append_left this]; exact h3)
      (by simp only [List.size_toArray, List.length_append] at hcl ⊢; omega) (fun _ off _ hf => by simp at hf) (fun _ _ => by simp)
    rw [hall] at hrun
    refine ⟨_, _, _, hrun, .sliceU H0.size 0 _ _ cap _ (Emb.with_same _ _ _) (Nat.le_refl _) hcap (.inr ?_), hR, hst0.trans (Step.trans (Step.world (w2 := w.drew) (Step.refl ι H0 w) rfl rfl rfl rfl) hS)⟩
    exact Nat.le_of_eq (by rw [show ∀ a : Nat, 0 + 0 + a = a from fun a => by omega]; exact htot.symm)
  split at ha
  · -- nil
    cases hs
    split at ha
    · rename_i hk
      subst hk
      simp at ha; obtain ⟨rfl, rfl⟩ := ha
      exact ⟨_, w, ι, run_append_in (ty := ty) ht2 hu2 hdu hsz hlen hnew (Nat.le_refl _) rfl, .slice0, h, Step.refl _ _ _⟩
    · rename_i hk
      split at ha
      rotate_left
      · simp at ha
      rename_i hc
      simp at hc
      simp at ha; obtain ⟨rfl, rfl⟩ := ha
      have := grow (base := none) (sLen := 0) (sCap := 0) (old := []) (old' := []) (H0 := H) rfl (by simp only [Builtin.firstCells]; rfl) .nil (by simp) (by omega) (by rw [Nat.zero_add]; exact hc.1) h hfree (Step.refl _ _ _) (.inr trivial)
      rw [Nat.zero_add] at this
      exact this
  · rename_i b o ex n c
    split at ha
    · -- room
      rename_i hroom
      split at ha
      rotate_left
      · simp at ha
      rename_i cs wr sz hg
      split at ha
      rotate_left
      · simp at ha
      rename_i hsz2
      split at ha
      · rename_i hk0
        subst hk0
        simp at ha; obtain ⟨rfl, rfl⟩ := ha
        have hn0 : new = [] := by cases new with | nil => rfl | cons _ _ => simp at hnl
        subst hn0
        cases hnr
        cases hs with
        | sliceU _ _ _ _ c' l hb hnc hcc htt => exact ⟨_, w, ι, run_append_in (ty := ty) ht2 hu2 hdu hsz hlen hnew (by omega) rfl, .sliceU _ _ _ _ c' l hb hnc hcc htt, h, Step.refl _ _ _⟩
        | sliceUZ _ _ a' l hb => exact ⟨_, w, ι, run_append_in (ty := ty) ht2 hu2 hdu hsz hlen hnew (by omega) rfl, .sliceUZ _ _ _ _ hb, h, Step.refl _ _ _⟩
        | sliceX _ _ _ _ l hb hnc htt => exact ⟨_, w, ι, run_append_in (ty := ty) ht2 hu2 hdu hsz hlen hnew (by omega) rfl, .sliceX _ _ _ _ l hb hnc htt, h, Step.refl _ _ _⟩
        | sliceXZ _ _ a' l hb => exact ⟨_, w, ι, run_append_in (ty := ty) ht2 hu2 hdu hsz hlen hnew (by omega) rfl, .sliceXZ _ _ _ _ hb, h, Step.refl _ _ _⟩
      · rename_i hk0
        cases hst : astoreAt H b (o + n * j.size) new with
        | none => simp [hst] at ha
        | some H2 =>
          simp [hst] at ha; obtain ⟨rfl, rfl⟩ := ha
          cases hs with
          | sliceU _ _ _ _ c' l hb hnc hcc htt =>
            obtain ⟨w', h1, h2, h3⟩ := astoreAt_sim (P := E.P) h hb hnr hst
            exact ⟨_, w', ι, run_append_in (ty := ty) ht2 hu2 hdu hsz hlen hnew (by omega) (by simp only [add_addr, Nat.add_assoc]; exact h1), .sliceU _ _ _ _ c' l hb hroom hcc htt, h2, h3⟩
          | sliceX _ _ _ _ l hb hnc htt =>
            obtain ⟨w', h1, h2, h3⟩ := astoreAt_sim (P := E.P) h hb hnr hst
            exact ⟨_, w', ι, run_append_in (ty := ty) ht2 hu2 hdu hsz hlen hnew (by omega) (by simp only [add_addr, Nat.add_assoc]; exact h1), .sliceX _ _ _ _ l hb hroom htt, h2, h3⟩
          | sliceUZ => omega
          | sliceXZ => omega
    · -- none
      rename_i hroom
      split at ha
      rotate_left
      · simp at ha
      rename_i hc
      simp only [Bool.and_eq_true, decide_eq_true_eq] at hc
      obtain ⟨hfit, hone⟩ := hc
      split at ha
      · -- it must grow
        cases htk : takeCells H b o (n * j.size) with
        | none => simp [htk] at ha
        | some old =>
          simp [htk] at ha; obtain ⟨rfl, rfl⟩ := ha
          cases hs with
          | sliceX _ _ _ _ l hb hnc htt =>
            obtain ⟨old', h1, h2, h3⟩ := takeCells_sim (P := E.P) hdrew hb htk
            exact grow (H0 := H) rfl (by simp only [Builtin.firstCells]; exact h1) h2 h3 hroom hfit h hfree (Step.refl _ _ _) (.inr trivial)
          | sliceXZ _ _ a' l hb =>
            obtain ⟨_, _, _, _, _, rfl⟩ := takeCells_parts htk
            have := grow (s' := .slice (some a') 0 0) (H0 := H) (sLen := 0) (old := []) (old' := []) rfl (by simp only [Builtin.firstCells, Nat.zero_mul]; rfl) .nil (by simp) hroom hfit h hfree (Step.refl _ _ _) (.inr trivial)
            rw [Nat.zero_mul, List.take_zero]
            exact this
      · -- it may grow
        split at ha
        rotate_left
        · simp at ha
        rename_i cs sz hg
        split at ha
        rotate_left
        · simp at ha
        rename_i hend
        obtain ⟨rfl, hend⟩ := hend
        simp at ha; obtain ⟨rfl, rfl⟩ := ha
        have hwrt : wrt H b = true := by simp [wrt, hg]
        have key : ∀ {base : Option Addr} {sCap : Nat} {old' : List Value} {l : Loc}, ι b = some l → (Builtin.firstCells j.size n (.slice base n sCap)).run E.P w.drew = .ok ⟨old'⟩ w.drew → RVs ι (cs.drop o) old' → ¬ n + k ≤ sCap →
            ∃ v' w' ι', (Builtin.append_ #[t, u] ty #[.slice base n sCap, x']).run E.P w = .ok v' w' ∧ RV ι' (.slice (some ⟨H.size, 0, none⟩) (n + k) (n + k)) v' ∧ Rel E ι' ((H.set b .dead).alloc (.cells (cs.drop o ++ new) true j.size)) w' ∧
              Step ι H w ι' ((H.set b .dead).alloc (.cells (cs.drop o ++ new) true j.size)) w' := by
          intro base sCap old' l hb hold hor hno
          obtain ⟨hk1, hk2⟩ := h.kill hb
          have := grow (s' := .slice base n sCap) (H0 := H.set b .dead) rfl hold hor (by simp; omega) hno hfit hk1 hfree hk2 (.inr trivial)
          exact this
        cases hs with
        | sliceUZ _ _ a' l hb =>
          have hd : cs.drop o = [] := by rw [List.drop_eq_nil_iff]; omega
          have := key (base := some a') (sCap := 0) (old' := []) hb (by simp only [Builtin.firstCells, Nat.zero_mul]; rfl) (by rw [hd]; exact .nil) hroom
          exact this
        | sliceU _ _ _ _ c' l hb hnc hcc htt =>
          have htk : takeCells H b o (n * j.size) = some (cs.drop o) := by
            simp only [takeCells, hg]
            rw [if_pos (by omega), List.take_of_length_le (by simp; omega)]
          by_cases hin : n + k ≤ c'
          · -- in place
            obtain ⟨C, tyc, fz, h1, h2, h3, h4, h5, h6, h7⟩ := h.cells _ _ _ _ _ hb hg
            have htt' : l.base + o + c' * j.size ≤ l.tot := by
              rcases htt with h8 | h8
              · rw [h3] at h8; exact absurd h8 hj0
              · rw [h3] at h8; exact h8
            have hmul : (n + k) * j.size ≤ c' * j.size := Nat.mul_le_mul_right _ hin
            rw [Nat.add_mul] at hmul
            have hst := run_storeCells (P := E.P) (off := l.base + o + n * j.size) new' 0 C w h1 (by omega) (all_oneCell hnr hone) (by rw [h2]; exact h6 rfl)
            rw [Nat.add_zero] at hst
            have hcsz : (asplice C (l.base + o + n * j.size) new').size = l.tot := by rw [asplice_size _ _ _ (by omega), h2]
            obtain ⟨hR, hS⟩ := h.consume hfree (cs := cs.drop o ++ new) (sz := j.size) (base := l.base + o) (C := asplice C (l.base + o + n * j.size) new') (ty := tyc) (fz := fz) hb hwrt
              (by
                intro i v hv
                by_cases hi : i < (cs.drop o).length
                · rw [List.getElem?_append_left hi, List.getElem?_drop] at hv
                  obtain ⟨v', h8, h9⟩ := h5 _ _ hv
                  simp at hi
                  refine ⟨v', ?_, h9⟩
                  rw [asplice_out _ _ _ (by omega) _ (by omega)]
                  rw [show l.base + o + i = l.base + (o + i) by omega]; exact h8
                · rw [List.getElem?_append_right (by omega)] at hv
                  obtain ⟨v', h8, h9⟩ := hnr.get _ _ hv
                  refine ⟨v', ?_, h9⟩
                  have hlt : i - (cs.drop o).length < new'.length := by
                    rcases Nat.lt_or_ge (i - (cs.drop o).length) new'.length with h10 | h10
                    · exact h10
                    · rw [List.getElem?_eq_none h10] at h8; simp at h8
                  have e1 := asplice_in C (l.base + o + n * j.size) new' (by omega) _ hlt
                  simp at hi
                  have e2 : (cs.drop o).length = n * j.size := by simp; omega
                  rw [e2] at e1 h8
                  rw [show l.base + o + n * j.size + (i - n * j.size) = l.base + o + i by omega] at e1
                  rw [e1]; exact h8)
              (by rw [hcsz]; simp; omega) (by rw [hcsz]; exact h6 rfl) hj0
            refine ⟨_, _, _, run_append_in (ty := ty) ht2 hu2 hdu hsz hlen hnew hin (by simp only [add_addr]; exact hst), ?_, hR, hS⟩
            refine .sliceU H.size 0 _ _ c' _ (Emb.with_same _ _ _) (Nat.le_refl _) hin (.inr ?_)
            show l.base + o + 0 + c' * j.size ≤ _
            rw [hcsz]; omega
          · obtain ⟨old', h1, h2, h3⟩ := takeCells_sim (P := E.P) hdrew hb htk
            exact key hb (by simp only [Builtin.firstCells]; exact h1) h2 hin
      · simp at ha
  · simp at ha

end
end AbsYtlmcjfnignbdoaa
