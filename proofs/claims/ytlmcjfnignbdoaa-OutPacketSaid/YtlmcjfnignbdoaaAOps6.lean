/-
  Operations: makes, maps, conversions, the other builtin functions.
-/
import Derived.Test.YtlmcjfnignbdoaaAOps5
import Derived.IntWalk
namespace AbsYtlmcjfnignbdoaa
set_option linter.unusedVariables false
set_option linter.unusedSimpArgs false
set_option linter.unusedSectionVars false
open Go

section
variable {E : Env} {ι : Emb} {H H' : AHeap} {w : World}

theorem wrap_in {n : Int} (h0 : 0 ≤ n) (h1 : n ≤ 9223372036854775807) : IntKind.i64.wrap n = n := IntWalk.i64_in n (by omega)

theorem amakeSlice_sim (hE : TyOk E) (h : Rel E ι H w) (hfree : ι H.size = none) {t : Nat} {a a' b b' v : Value} (ha : RV ι a a') (hb : RV ι b b') (hs : amakeSlice E H t a b = some (v, H')) :
    ∃ v' w' ι', (Instr.makeSlice t a' b').run E.P w = .ok v' w' ∧ RV ι' v v' ∧ Rel E ι' H' w' ∧ Step ι H w ι' H' w' := by
  unfold amakeSlice at hs
  split at hs
  rotate_left
  · simp at hs
  rename_i e _ _ _ _ k l k' c ht
  cases ha; cases hb
  obtain ⟨inft, d, ht1, ht2, ht3, ht4, ht5, ht6, ht7⟩ := ti_parts hE ht
  obtain rfl := tk_slice ht3
  split at hs
  rotate_left
  · simp at hs
  rename_i j z hj hz
  obtain ⟨j', zs, hj', hzs, rfl⟩ := azero_of hz
  rw [hj] at hj'; simp at hj'; subst hj'
  obtain ⟨infe, de, he1, he2, he3, he4, he5, he6, he7⟩ := ti_parts hE hj
  obtain ⟨zv, hz1, hz2, hz9⟩ := run_zero hE hj w hzs
  have hzc : zv.cells = ⟨zs.map ZV.val⟩ := by rw [← hz2]
  split at hs
  rotate_left
  · simp at hs
  rename_i hcond
  obtain ⟨h0, h1, h2, h3, h4, h5⟩ := hcond
  simp at hs
  obtain ⟨rfl, rfl⟩ := hs
  have hl := wrap_in h0 (by omega)
  have hc := wrap_in (n := c) (by omega) h2
  have hr := range_reps (⟨zs.map ZV.val⟩ : Array Value) c.toNat j.size (by simpa using h5) h4
  have hlen : (reps (zs.map ZV.val) c.toNat).length = c.toNat * j.size := by rw [reps_length, h5]
  obtain ⟨hR, hS⟩ := h.alloc hfree (cs := reps (zs.map ZV.val) c.toNat) (wr := true) (sz := j.size) (C := ⟨reps (zs.map ZV.val) c.toNat⟩) (ty := e) (fz := (0, 0))
    (fun i v hv => by
      obtain ⟨v', h8, h9⟩ := ((RVs.zeros (ι := ι) zs).reps c.toNat).get i v hv
      exact ⟨v', by simpa using h8, h9⟩) (by simp) (fun _ off _ hf => by simp at hf) (fun _ _ => by simp)
  refine ⟨.slice (some ⟨w.heap.size, 0, none⟩) l.toNat c.toNat, _, _, ?_, .sliceX H.size 0 _ _ ⟨w.heap.size, 0, j.size, _⟩ (Emb.with_same _ _ _) (by omega) (.inr (by simp; rw [hlen]; omega)), hR, hS⟩
  have hinf : (typeInfo e).run E.P w = .ok infe w := by simp [typeInfo, he1]
  have hb1 : (infe.bytes : Int) * c ≤ 2 ^ 48 := by rw [he5]; omega
  have htl : (decide (c < 0) || decide ((infe.bytes : Int) * c > 2 ^ 48) || decide (l < 0) || decide (l > c)) = false := by
    simp; omega
  simp only [Instr.makeSlice, Sem.run_bind, run_und' w ht2, Result.andThen_ok, asInt, asIntOf, Sem.run_pure, hinf, hl, hc]
  rw [if_neg (by rw [htl]; simp)]
  simp only [run_askRoom, Result.andThen_ok, run_sizeOf' hE hj, Sem.run_bind]
  by_cases hn : c.toNat * j.size = 0
  · have hc0 : c.toNat = 0 := by
      rcases Nat.mul_eq_zero.1 hn with h | h
      · exact h
      · exact absurd h h4
    have hr0 : ∀ z : Array Value, (Array.range (c.toNat * j.size)).map (fun k => z[k % z.size]!) = ⟨[]⟩ := by intro z; simp [hn]
    have hrp : reps (zs.map ZV.val) c.toNat = [] := by rw [hc0]; rfl
    rw [if_pos hn]
    simp only [Sem.run_pure, Result.andThen_ok, hr0, newRow, Sem.run_bind, Go.run_newObj, hrp]
    rfl
  · rw [if_neg hn]
    simp only [Sem.run_bind, hz1, Result.andThen_ok, Sem.run_pure, hzc, hr, newRow, Go.run_newObj]
    rfl

/-! ### maps -/
theorem keyKind_of (hE : TyOk E) {kt : Nat} {k k' : Value} {d : TypeDesc} (hk : RV ι k k') (h : keyKind E kt k = some d) :
    k' = k ∧ E.P.underlying kt = some d ∧ ((∃ q q' n, d = .int q ∧ k = .int q' n) ∨ (d = .string ∧ ∃ s, k = .string s)) := by
  unfold keyKind at h
  split at h
  · rename_i q _ _ _ _ q' n ht
    simp at h; subst h
    cases hk
    obtain ⟨inft, d, ht1, ht2, ht3, ht4, ht5, ht6, ht7⟩ := ti_parts hE ht
    obtain rfl := tk_int ht3
    exact ⟨rfl, ht2, .inl ⟨q, q', n, rfl, rfl⟩⟩
  · rename_i _ _ _ _ s ht
    simp at h; subst h
    cases hk
    obtain ⟨inft, d, ht1, ht2, ht3, ht4, ht5, ht6, ht7⟩ := ti_parts hE ht
    obtain rfl := tk_string ht3
    exact ⟨rfl, ht2, .inr ⟨rfl, s, rfl⟩⟩
  · simp at h

theorem checkKey_plain' {P : Program} {kt : Nat} {k : Value} {d : TypeDesc} (hd : P.underlying kt = some d) (hk : (∃ q q' n, d = .int q ∧ k = .int q' n) ∨ (d = .string ∧ ∃ s, k = .string s)) (emp : Bool) (w : World) (n : Nat) :
    (Instr.checkKey emp (n + 1) kt k).run P w = .ok () w := by
  rcases hk with ⟨q, q', n, rfl, rfl⟩ | ⟨rfl, s, rfl⟩
  · simp only [Instr.checkKey, Sem.run_bind, run_und' w hd, Result.andThen_ok, Sem.run_pure]
  · simp only [Instr.checkKey, Sem.run_bind, run_und' w hd, Result.andThen_ok, Sem.run_pure]
theorem checkKey_plain {P : Program} {kt : Nat} {k : Value} {d : TypeDesc} (hd : P.underlying kt = some d) (hk : (∃ q q' n, d = .int q ∧ k = .int q' n) ∨ (d = .string ∧ ∃ s, k = .string s)) (emp : Bool) (w : World) :
    (Instr.checkKey emp 10000 kt k).run P w = .ok () w := checkKey_plain' hd hk emp w 9999

theorem findNow_sim {d : TypeDesc} {k : Value} {es es' : List MapEntry} (h : REs ι es es') : ∀ (i : Nat) (r : Option (Nat × Value)), Instr.findNow d k es i = some r →
    match r with
    | none => Instr.findNow d k es' i = some none
    | some (n, v) => ∃ v', Instr.findNow d k es' i = some (some (n, v')) ∧ RV ι v v' := by
  induction h with
  | nil => intro i r hr; simp [Instr.findNow] at hr; subst hr; rfl
  | cons e e' es es' hk hb hv hs ih =>
    intro i r hr
    simp only [Instr.findNow] at hr ⊢
    rw [hk]
    cases hsn : Instr.sameNow d k e.key with
    | none => simp [hsn] at hr
    | some b =>
      cases b with
      | true => simp [hsn] at hr; subst hr; exact ⟨_, rfl, hv⟩
      | false => simp only [hsn] at hr ⊢; exact ih (i + 1) r hr

theorem findNow_key {d : TypeDesc} {k : Value} {es : List MapEntry} : ∀ (i n : Nat) (v : Value), Instr.findNow d k es i = some (some (n, v)) → ∃ e, es[n - i]? = some e ∧ i ≤ n ∧ Instr.sameNow d k e.key = some true := by
  induction es with
  | nil => intro i n v h; simp [Instr.findNow] at h
  | cons e es ih =>
    intro i n v h
    simp only [Instr.findNow] at h
    cases hsn : Instr.sameNow d k e.key with
    | none => simp [hsn] at h
    | some b =>
      cases b with
      | true => simp [hsn] at h; obtain ⟨rfl, _⟩ := h; exact ⟨e, by simp, Nat.le_refl _, hsn⟩
      | false =>
        simp only [hsn] at h
        obtain ⟨e2, h1, h2, h3⟩ := ih (i + 1) n v h
        refine ⟨e2, ?_, by omega, h3⟩
        rw [show n - i = (n - (i + 1)) + 1 by omega]; simpa using h1

theorem sameNow_same {d : TypeDesc} {k k2 : Value} (h : Instr.sameNow d k k2 = some true) : Instr.sameBits 10000 k2 k = true := by
  unfold Instr.sameNow at h
  split at h
  · split at h
    · rename_i hk
      injection h with h
      have := eq_of_beq h
      subst hk; subst this
      show (_ == _ && _ == _) = true
      simp
    · cases h
  · rename_i a b
    injection h with h
    show (b == a) = true
    rw [beq_toListBytes] at h ⊢
    rw [eq_of_beq h]; simp
  · injection h with h
    have := eq_of_beq h
    subst this
    show (_ == _) = true
    simp
  · cases h

theorem run_findKey {P : Program} {kt : Nat} {d : TypeDesc} {k : Value} {es : List MapEntry} {r : Option (Nat × Value)} (hd : P.underlying kt = some d) (h : Instr.findNow d k es 0 = some r) (w : World) :
    (Instr.findKey kt k es).run P w = .ok r w := by
  simp only [Instr.findKey, Sem.run_bind, run_und' w hd, Result.andThen_ok, h, Sem.run_pure]

theorem run_getObj {P : Program} {r : Nat} {es : Array MapEntry} {c : Nat} (h : w.heap[r]? = some (.map es c)) : (getObj r).run P w = .ok (.map es c) w := by
  simp [getObj, Sem.run, h]
theorem run_setObj {P : Program} {r : Nat} {es : Array MapEntry} {c : Nat} (h : w.heap[r]? = some (.map es c)) (o : Obj) : (setObj r o).run P w = .ok () (putBlk w r o) := by
  simp [setObj, Sem.run, h, putBlk]

theorem REs.length {es es' : List MapEntry} (h : REs ι es es') : es.length = es'.length := by
  induction h with
  | nil => rfl
  | cons e e' es es' _ _ _ _ ih => simp [ih]
theorem REs.modify {es es' : List MapEntry} (h : REs ι es es') (i : Nat) {k v v' : Value} (hv : RV ι v v') :
    REs ι (es.modify i fun e => { e with key := k, val := v }) (es'.modify i fun e => { e with key := k, val := v' }) := by
  induction h generalizing i with
  | nil => simp; exact .nil
  | cons e e' es es' hk hb hv0 hs ih =>
    cases i with
    | zero => simp; exact .cons _ _ _ _ rfl hb hv hs
    | succ i => simp; exact .cons _ _ _ _ hk hb hv0 (ih i)
theorem REs.snoc {es es' : List MapEntry} (h : REs ι es es') {k v v' : Value} (c : Nat) (hv : RV ι v v') : REs ι (es ++ [⟨k, v, c⟩]) (es' ++ [⟨k, v', c⟩]) := by
  induction h with
  | nil => exact .cons _ _ _ _ rfl rfl hv .nil
  | cons e e' es es' hk hb hv0 hs ih => exact .cons _ _ _ _ hk hb hv0 ih
theorem REs.erase {es es' : List MapEntry} (h : REs ι es es') (i : Nat) : REs ι (es.eraseIdx i) (es'.eraseIdx i) := by
  induction h generalizing i with
  | nil => exact .nil
  | cons e e' es es' hk hb hv0 hs ih =>
    cases i with
    | zero => simp; exact hs
    | succ i => simp; exact .cons _ _ _ _ hk hb hv0 (ih i)

theorem luRes_sim {a a' : Value} (ok b : Bool) (ha : RV ι a a') : RV ι (luRes ok a b) (if ok = true then .tuple #[a', .bool b] else a') := by
  cases ok
  · exact ha
  · exact .tuple _ _ (.cons _ _ _ _ ha (.cons _ _ _ _ (.bool b) .nil))

theorem alookup_sim (hE : TyOk E) (h : Rel E ι H w) {t : Nat} {m m' k k' v : Value} {ok : Bool} (hm : RV ι m m') (hk : RV ι k k') (hs : alookup E H t m k ok = some v) :
    ∃ v', (Instr.lookup t m' k' ok).run E.P w = .ok v' w ∧ RV ι v v' := by
  unfold alookup at hs
  split at hs
  rotate_left
  · cases hs
  rename_i kt et _ _ _ _ ht
  obtain ⟨inft, d, ht1, ht2, ht3, ht4, ht5, ht6, ht7⟩ := ti_parts hE ht
  obtain rfl := tk_map ht3
  split at hs
  rotate_left
  · cases hs
  rename_i dk zv hkk hz
  obtain ⟨rfl, hkd, hkv⟩ := keyKind_of hE hk hkk
  obtain ⟨zv', hz1, hz2⟩ := azeroV_sim hE (ι := ι) hz w
  split at hs
  · cases hm
    injection hs with hs; subst hs
    refine ⟨_, ?_, luRes_sim ok false hz2⟩
    simp only [Instr.lookup, Sem.run_bind, run_und' w ht2, Result.andThen_ok, Sem.run_pure, checkKey_plain hkd hkv, run_findKey hkd (es := []) (r := none) rfl, hz1]
  · rename_i r
    cases hm with | map _ l hb =>
    split at hs
    rotate_left
    · cases hs
    rename_i es clk hg
    obtain ⟨es', h1, h2⟩ := h.maps _ _ _ _ hb hg
    split at hs
    · rename_i n u hf
      injection hs with hs; subst hs
      obtain ⟨u', h3, h4⟩ := findNow_sim h2 0 _ hf
      refine ⟨_, ?_, luRes_sim ok true h4⟩
      simp only [Instr.lookup, Sem.run_bind, run_und' w ht2, Result.andThen_ok, Sem.run_pure, run_getObj h1, checkKey_plain hkd hkv, run_findKey hkd h3]
    · rename_i hf
      injection hs with hs; subst hs
      have h3 := findNow_sim h2 0 _ hf
      refine ⟨_, ?_, luRes_sim ok false hz2⟩
      simp only [Instr.lookup, Sem.run_bind, run_und' w ht2, Result.andThen_ok, Sem.run_pure, run_getObj h1, checkKey_plain hkd hkv, run_findKey hkd h3, hz1]
    · cases hs
  · cases hs

theorem amapUpdate_sim (hE : TyOk E) (h : Rel E ι H w) {t : Nat} {m m' k k' v v' : Value} (hm : RV ι m m') (hk : RV ι k k') (hv : RV ι v v') (hs : amapUpdate E H t m k v = some H') :
    ∃ w', (Instr.mapUpdate t m' k' v').run E.P w = .ok () w' ∧ Rel E ι H' w' ∧ Step ι H w ι H' w' := by
  unfold amapUpdate at hs
  split at hs
  rotate_left
  · simp at hs
  rename_i kt et _ _ _ _ r ht
  obtain ⟨inft, d, ht1, ht2, ht3, ht4, ht5, ht6, ht7⟩ := ti_parts hE ht
  obtain rfl := tk_map ht3
  cases hm with | map _ l hb =>
  split at hs
  rotate_left
  · simp at hs
  rename_i dk es clk hkk hg
  obtain ⟨rfl, hkd, hkv⟩ := keyKind_of hE hk hkk
  obtain ⟨es', h1, h2⟩ := h.maps _ _ _ _ hb hg
  have hw : wrt H r = true := by simp [wrt, hg]
  split at hs
  · rename_i n u hf
    simp at hs; subst hs
    obtain ⟨u', h3, h4⟩ := findNow_sim h2 0 _ hf
    obtain ⟨e, h5, _, h6⟩ := findNow_key 0 n u' h3
    have hkey : (((es'[n]?).map (·.key)).getD k') = e.key := by
      have : es'[n]? = some e := by rw [← Array.getElem?_toList]; simpa using h5
      rw [this]; rfl
    have hstay : (Instr.keyThatStays e.key k').run E.P w = .ok k' w := by
      simp only [Instr.keyThatStays, sameNow_same h6, if_true, Sem.run_pure]
    refine ⟨_, ?_, h.put (O := .map (es'.modify n fun e => { e with key := k', val := v' }) clk) hb hw (fun _ _ => trivial) ?_ ?_⟩
    · simp only [Instr.mapUpdate, Sem.run_bind, run_und' w ht2, Result.andThen_ok, run_getObj h1, checkKey_plain hkd hkv, run_findKey hkd h3, hkey, hstay]
      rw [run_setObj h1]
    · intro cs wr sz he; simp at he
    · intro es2 clk2 he
      simp at he; obtain ⟨rfl, rfl⟩ := he
      exact ⟨_, rfl, by simpa using h2.modify n hv⟩
  · rename_i hf
    simp at hs; subst hs
    have h3 := findNow_sim h2 0 _ hf
    refine ⟨_, ?_, h.put (O := .map (es'.push { key := k', val := v', born := clk }) (clk + 1)) hb hw (fun _ _ => trivial) ?_ ?_⟩
    · simp only [Instr.mapUpdate, Sem.run_bind, run_und' w ht2, Result.andThen_ok, run_getObj h1, checkKey_plain hkd hkv, run_findKey hkd h3]
      rw [run_setObj h1]
    · intro cs wr sz he; simp at he
    · intro es2 clk2 he
      simp at he; obtain ⟨rfl, rfl⟩ := he
      exact ⟨_, rfl, by simpa using h2.snoc clk hv⟩
  · simp at hs

theorem adelete_sim (hE : TyOk E) (h : Rel E ι H w) {t : Nat} {ts : List Nat} {ty : Nat} {m m' k k' : Value} (hm : RV ι m m') (hk : RV ι k k') (hs : adelete E H t m k = some H') :
    ∃ w', (Builtin.delete_ (t :: ts).toArray ty #[m', k']).run E.P w = .ok (.tuple #[]) w' ∧ Rel E ι H' w' ∧ Step ι H w ι H' w' := by
  unfold adelete at hs
  split at hs
  rotate_left
  · simp at hs
  rename_i kt et _ _ _ _ ht
  obtain ⟨inft, d, ht1, ht2, ht3, ht4, ht5, ht6, ht7⟩ := ti_parts hE ht
  obtain rfl := tk_map ht3
  split at hs
  · rename_i dk hkk
    obtain ⟨rfl, hkd, hkv⟩ := keyKind_of hE hk hkk
    cases hm
    simp at hs; subst hs
    exact ⟨w, by simp [Builtin.delete_, run_und' w ht2, checkKey_plain hkd hkv], h, Step.refl _ _ _⟩
  · rename_i dk r hkk
    obtain ⟨rfl, hkd, hkv⟩ := keyKind_of hE hk hkk
    cases hm with | map _ l hb =>
    split at hs
    rotate_left
    · simp at hs
    rename_i es clk hg
    obtain ⟨es', h1, h2⟩ := h.maps _ _ _ _ hb hg
    have hw : wrt H r = true := by simp [wrt, hg]
    split at hs
    · rename_i n u hf
      simp at hs; subst hs
      obtain ⟨u', h3, h4⟩ := findNow_sim h2 0 _ hf
      refine ⟨_, ?_, h.put (O := .map (es'.eraseIdxIfInBounds n) clk) hb hw (fun _ _ => trivial) ?_ ?_⟩
      · simp [Builtin.delete_, run_und' w ht2, run_getObj h1, checkKey_plain hkd hkv, run_findKey hkd h3, run_setObj h1]
      · intro cs wr sz he; simp at he
      · intro es2 clk2 he
        simp at he; obtain ⟨rfl, rfl⟩ := he
        exact ⟨_, rfl, by simpa using h2.erase n⟩
    · rename_i hf
      simp at hs; subst hs
      have h3 := findNow_sim h2 0 _ hf
      refine ⟨w, ?_, h, Step.refl _ _ _⟩
      simp [Builtin.delete_, run_und' w ht2, run_getObj h1, checkKey_plain hkd hkv, run_findKey hkd h3, run_setObj h1, putBlk_self _ _ _ h1]
    · simp at hs
  · simp at hs

end
end AbsYtlmcjfnignbdoaa
