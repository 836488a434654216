/-
  Operations: the remaining builtin functions and conversions; every operation.
-/
import Derived.Test.YtlmcjfnignbdoaaAOps7
namespace AbsYtlmcjfnignbdoaa
set_option linter.unusedVariables false
set_option linter.unusedSimpArgs false
set_option linter.unusedSectionVars false
open Go

section
variable {E : Env} {ι : Emb} {H H' : AHeap} {w : World}

theorem abuiltin_sim (hE : TyOk E) (h : Rel E ι H w) (hfree : ι H.size = none) {b : Builtin} {ts : List Nat} {ty : Nat} {cs : Array Bool} {args args' : List Value} {v : Value} (ha : RVs ι args args') (hs : abuiltin E H b ts args = some (v, H')) :
    ∃ v' w' ι', (builtin b ts.toArray ty cs ⟨args'⟩).run E.P w = .ok (.value v') w' ∧ RV ι' v v' ∧ Rel E ι' H' w' ∧ Step ι H w ι' H' w' := by
  unfold abuiltin at hs
  split at hs
  · -- len of a string
    rename_i s
    split at hs
    rotate_left
    · cases hs
    rename_i t rest
    split at hs
    rotate_left
    · cases hs
    rename_i ht
    simp at hs; obtain ⟨rfl, rfl⟩ := hs
    obtain ⟨inft, d, ht1, ht2, ht3, ht4, ht5, ht6, ht7⟩ := ti_parts hE ht
    obtain rfl := tk_string ht3
    cases ha with | cons _ _ _ _ hx hr =>
    cases hx; cases hr
    exact ⟨goInt s.size, w, ι, by simp [builtin, Builtin.len_, run_und' w ht2], .int _ _, h, Step.refl _ _ _⟩
  · rename_i a n c
    split at hs
    rotate_left
    · cases hs
    rename_i t rest
    split at hs
    rotate_left
    · cases hs
    rename_i ht
    simp at hs; obtain ⟨rfl, rfl⟩ := hs
    obtain ⟨inft, d, ht1, ht2, ht3, ht4, ht5, ht6, ht7⟩ := ti_parts hE ht
    obtain rfl := tk_slice ht3
    cases ha with | cons _ _ _ _ hx hr =>
    cases hr
    cases hx <;> exact ⟨goInt _, w, ι, by simp only [builtin, Builtin.len_, List.getElem?_toArray, List.getElem?_cons_zero, Sem.run_bind, run_und' w ht2, Result.andThen_ok, Sem.run_pure], .int _ _, h, Step.refl _ _ _⟩
  · split at hs
    rotate_left
    · cases hs
    rename_i t rest
    split at hs
    rotate_left
    · cases hs
    rename_i ht
    simp at hs; obtain ⟨rfl, rfl⟩ := hs
    obtain ⟨inft, d, ht1, ht2, ht3, ht4, ht5, ht6, ht7⟩ := ti_parts hE ht
    obtain rfl := tk_map ht3
    cases ha with | cons _ _ _ _ hx hr =>
    cases hx; cases hr
    exact ⟨goInt 0, w, ι, by simp [builtin, Builtin.len_, run_und' w ht2], .int _ _, h, Step.refl _ _ _⟩
  · rename_i r
    split at hs
    rotate_left
    · cases hs
    rename_i t rest
    split at hs
    rotate_left
    · cases hs
    rename_i es clk ht hg
    simp at hs; obtain ⟨rfl, rfl⟩ := hs
    obtain ⟨inft, d, ht1, ht2, ht3, ht4, ht5, ht6, ht7⟩ := ti_parts hE ht
    obtain rfl := tk_map ht3
    cases ha with | cons _ _ _ _ hx hr =>
    cases hr
    cases hx with | map _ l hb =>
    obtain ⟨es', h1, h2⟩ := h.maps _ _ _ _ hb hg
    have hl := h2.length
    refine ⟨.int .i64 es'.size, w, ι, by simp [builtin, Builtin.len_, run_und' w ht2, run_getObj h1, goInt], ?_, h, Step.refl _ _ _⟩
    have : (es.length : Int) = es'.size := by simp at hl; omega
    simp only [goInt, this]; exact .int _ _
  · -- append
    have h2 : ∃ t u s x, ts = [t, u] ∧ args = [s, x] := by
      unfold aappend at hs
      split at hs
      · exact ⟨_, _, _, _, rfl, rfl⟩
      · cases hs
    obtain ⟨t, u, s, x, rfl, rfl⟩ := h2
    cases ha with | cons _ s' _ _ hs1 hr =>
    cases hr with | cons _ x' _ _ hx1 hr =>
    cases hr
    obtain ⟨v', w', ι', h3, h4, h5, h6⟩ := aappend_sim (ty := ty) hE h hfree hs1 hx1 hs
    exact ⟨v', w', ι', by simp only [builtin, Sem.run_bind]; rw [h3]; rfl, h4, h5, h6⟩
  · -- min
    cases hm : aminmax true args with
    | none => simp [hm] at hs
    | some r =>
      simp [hm] at hs; obtain ⟨rfl, rfl⟩ := hs
      unfold aminmax at hm
      split at hm
      rotate_left
      · cases hm
      cases ha with | cons _ _ _ _ hx hr =>
      cases hx
      obtain ⟨h1, h2⟩ := aminmaxF_sim (P := E.P) (w := w) hr hm
      simp only [if_true] at h1
      exact ⟨_, w, ι, by simp [builtin, Builtin.min_, h1], h2, h, Step.refl _ _ _⟩
  · cases hm : aminmax false args with
    | none => simp [hm] at hs
    | some r =>
      simp [hm] at hs; obtain ⟨rfl, rfl⟩ := hs
      unfold aminmax at hm
      split at hm
      rotate_left
      · cases hm
      cases ha with | cons _ _ _ _ hx hr =>
      cases hx
      obtain ⟨h1, h2⟩ := aminmaxF_sim (P := E.P) (w := w) hr hm
      simp only [Bool.false_eq_true, if_false] at h1
      exact ⟨_, w, ι, by simp [builtin, Builtin.max_, h1], h2, h, Step.refl _ _ _⟩
  · -- delete
    rename_i m k
    split at hs
    rotate_left
    · cases hs
    rename_i t rest
    cases hd : adelete E H t m k with
    | none => simp [hd] at hs
    | some H2 =>
      simp [hd] at hs; obtain ⟨rfl, rfl⟩ := hs
      cases ha with | cons _ m' _ _ hm hr =>
      cases hr with | cons _ k' _ _ hk hr =>
      cases hr
      obtain ⟨w', h1, h2, h3⟩ := adelete_sim (ts := rest) (ty := ty) hE h hm hk hd
      refine ⟨_, w', ι, ?_, .tuple [] [] .nil, h2, h3⟩
      simp only [builtin, Sem.run_bind]; rw [h1]; rfl
  · -- clear
    rename_i b o ex n c
    split at hs
    rotate_left
    · cases hs
    rename_i t rest
    split at hs
    rotate_left
    · cases hs
    rename_i e _ _ _ _ ht
    obtain ⟨inft, d, ht1, ht2, ht3, ht4, ht5, ht6, ht7⟩ := ti_parts hE ht
    obtain rfl := tk_slice ht3
    split at hs
    rotate_left
    · cases hs
    rename_i j z hj hz
    obtain ⟨j', zs, hj', hzs, rfl⟩ := azero_of hz
    rw [hj] at hj'; simp at hj'; subst hj'
    obtain ⟨zv, hz1, hz2, hz9⟩ := run_zero hE hj w hzs
    have hzc : zv.cells = ⟨zs.map ZV.val⟩ := by rw [← hz2]
    cases ha with | cons _ x' _ _ hx hr =>
    cases hr
    split at hs
    · split at hs
      rotate_left
      · cases hs
      rename_i hn
      subst hn
      simp at hs; obtain ⟨rfl, rfl⟩ := hs
      refine ⟨.tuple #[], w, ι, ?_, .tuple [] [] .nil, h, Step.refl _ _ _⟩
      cases hx <;> simp [builtin, Builtin.clear_, run_und' w ht2]
    · rename_i hcond
      simp only [Bool.or_eq_true, decide_eq_true_eq, bne_iff_ne, not_or, ne_eq, Decidable.not_not] at hcond
      obtain ⟨⟨hj0, hzl⟩, hn0⟩ := hcond
      cases hst : astoreAt H b o (reps (zs.map ZV.val) n) with
      | none => simp [hst] at hs
      | some H2 =>
        simp [hst] at hs; obtain ⟨rfl, rfl⟩ := hs
        have hzsz : (⟨zs.map ZV.val⟩ : Array Value).size = j.size := by simpa using hzl
        have hzc2 : Builtin.zeroCells (⟨zs.map ZV.val⟩ : Array Value) n = ⟨reps (zs.map ZV.val) n⟩ := by
          unfold Builtin.zeroCells
          rw [hzsz]
          have := range_reps (⟨zs.map ZV.val⟩ : Array Value) n j.size hzsz hj0
          rw [hzsz] at this
          exact this
        have main : ∀ (l : Loc) (c' : Nat), ι b = some l → x' = .slice (some ⟨l.blk, l.base + o, none⟩) n c' → ∃ v' w' ι', (builtin .clear (t :: rest).toArray ty cs ⟨[x']⟩).run E.P w = .ok (.value v') w' ∧ RV ι' (.tuple #[]) v' ∧ Rel E ι' H2 w' ∧ Step ι H w ι' H2 w' := by
          intro l c' hb hx'
          subst hx'
          obtain ⟨w', h1, h2, h3⟩ := astoreAt_sim (P := E.P) h hb ((RVs.zeros (ι := ι) zs).reps n) hst
          refine ⟨.tuple #[], w', ι, ?_, .tuple [] [] .nil, h2, h3⟩
          obtain ⟨m, rfl⟩ : ∃ m, n = m + 1 := ⟨n - 1, by omega⟩
          simp [builtin, Builtin.clear_, run_und' w ht2, hz1, hzc, hzc2, h1]
        cases hx with
        | sliceU _ _ _ _ c' l hb _ _ _ => exact main l c' hb rfl
        | sliceX _ _ _ _ l hb _ _ => exact main l c hb rfl
        | sliceUZ => exact absurd rfl hn0
        | sliceXZ => exact absurd rfl hn0
  · cases hs

theorem bytes_of {l : List Value} {bs : List UInt8} (h : l.mapM byteOfV = some bs) : ∃ ns : List Int, l = ns.map (Value.int .u8) ∧ bs = ns.map fun n => UInt8.ofNat n.toNat := by
  induction l generalizing bs with
  | nil => simp at h; subst h; exact ⟨[], rfl, rfl⟩
  | cons v l ih =>
    rw [List.mapM_cons] at h
    cases hv : byteOfV v with
    | none => simp [hv] at h
    | some b =>
      cases hl : l.mapM byteOfV with
      | none => simp [hv, hl] at h
      | some r =>
        simp [hv, hl] at h; subst h
        obtain ⟨ns, h1, h2⟩ := ih hl
        unfold byteOfV at hv
        split at hv
        · rename_i n; injection hv with hv; exact ⟨n :: ns, by rw [h1]; rfl, by rw [h2, ← hv]; rfl⟩
        · cases hv
theorem push_bytes (ns : List Int) (s : ByteArray) : ns.foldl (fun r n => r.push (UInt8.ofNat n.toNat)) s = ⟨s.data ++ (ns.map fun n => UInt8.ofNat n.toNat).toArray⟩ := by
  induction ns generalizing s with
  | nil => simp
  | cons n ns ih =>
    rw [List.foldl_cons, ih]
    simp [ByteArray.push]
theorem RVs.ints {ns : List Int} {k : IntKind} {vs' : List Value} (h : RVs ι (ns.map (Value.int k)) vs') : vs' = ns.map (Value.int k) := by
  induction ns generalizing vs' with
  | nil => cases h; rfl
  | cons n ns ih => cases h with | cons _ _ _ _ hx hr => cases hx; rw [ih hr]; rfl

theorem aconvert_sim (hE : TyOk E) (h : Rel E ι H w) (hfree : ι H.size = none) {s d : Nat} {x x' v : Value} (hx : RV ι x x') (hs : aconvert E H s d x = some (v, H')) :
    ∃ v' w' ι', (convert s d x').run E.P w = .ok v' w' ∧ RV ι' v v' ∧ Rel E ι' H' w' ∧ Step ι H w ι' H' w' := by
  unfold aconvert at hs
  split at hs
  rotate_left
  · cases hs
  rename_i i j hi hj
  obtain ⟨infs, ds, hs1, hs2, hs3, hs4, hs5, hs6, hs7⟩ := ti_parts hE hi
  obtain ⟨infd, dd, hd1, hd2, hd3, hd4, hd5, hd6, hd7⟩ := ti_parts hE hj
  split at hs
  · rename_i k k' n hk
    rw [hk] at hd3; obtain rfl := tk_int hd3
    cases hx
    simp at hs; obtain ⟨rfl, rfl⟩ := hs
    refine ⟨_, w, ι, ?_, .int _ _, h, Step.refl _ _ _⟩
    simp only [convert, Sem.run_bind, run_und' w hs2, run_und' w hd2, Result.andThen_ok]
    cases ds <;> rfl
  · rename_i hk1 hk2
    rw [hk1] at hs3; obtain rfl := tk_string hs3
    rw [hk2] at hd3; obtain rfl := tk_string hd3
    cases hx
    simp at hs; obtain ⟨rfl, rfl⟩ := hs
    exact ⟨_, w, ι, by simp [convert, run_und' w hs2, run_und' w hd2], .string _, h, Step.refl _ _ _⟩
  · rename_i e str hk1 hk2
    rw [hk1] at hs3; obtain rfl := tk_string hs3
    rw [hk2] at hd3; obtain rfl := tk_slice hd3
    cases hx
    split at hs
    rotate_left
    · cases hs
    rename_i he
    obtain ⟨infe, de, he1, he2, he3, he4, he5, he6, he7⟩ := ti_parts hE he
    obtain rfl := tk_int he3
    simp at hs; obtain ⟨rfl, rfl⟩ := hs
    have hrun := run_bytes_of_string (P := E.P) w s d e str hs2 hd2 he2
    have hcap := grownCap_ge w str.size 0 e
    have hbl : (bytesRow str (grownCap w str.size 0 e)).size = grownCap w str.size 0 e := by simp [bytesRow]; omega
    obtain ⟨hR, hS⟩ := (h.world (w' := w.drew) rfl).alloc hfree (cs := str.data.toList.map fun b => .int .u8 b.toNat) (wr := true) (sz := 1) (C := bytesRow str (grownCap w str.size 0 e)) (ty := e)
      (fz := ((bytesRow str (grownCap w str.size 0 e)).size, (bytesRow str (grownCap w str.size 0 e)).size + 1))
      (by
        intro i v hv
        have hi : i < str.data.toList.length := by
          rcases Nat.lt_or_ge i str.data.toList.length with h1 | h1
          · exact h1
          · rw [List.getElem?_eq_none (by simpa using h1)] at hv; simp at hv
        refine ⟨v, ?_, ?_⟩
        · simp only [bytesRow, Nat.zero_add]
          rw [Array.getElem?_append_left (by simpa using hi)]
          simp at hv ⊢
          exact hv
        · simp at hv
          obtain ⟨a, _, rfl⟩ := hv
          exact .int _ _)
      (by rw [hbl]; simp at *; exact hcap) (fun _ off ho hf => by simp at hf; omega) (fun _ h0 => by simp at h0)
    refine ⟨_, _, _, hrun, .sliceU H.size 0 _ _ _ _ (Emb.with_same _ _ _) (Nat.le_refl _) hcap (.inr ?_), hR, Step.trans (Step.world (w2 := w.drew) (Step.refl ι H w) rfl rfl rfl rfl) hS⟩
    show 0 + 0 + _ * 1 ≤ (bytesRow str (grownCap w str.size 0 e)).size
    rw [hbl]; omega
  · rename_i e n c hk1 hk2
    rw [hk1] at hs3; obtain rfl := tk_slice hs3
    rw [hk2] at hd3; obtain rfl := tk_string hd3
    split at hs
    rotate_left
    · cases hs
    rename_i he
    obtain ⟨infe, de, he1, he2, he3, he4, he5, he6, he7⟩ := ti_parts hE he
    obtain rfl := tk_int he3
    simp at hs; obtain ⟨rfl, rfl⟩ := hs
    cases hx
    refine ⟨_, w, ι, ?_, .string _, h, Step.refl _ _ _⟩
    rw [run_convert_bytes_string w s d e none 0 0 hs2 he2 hd2]
    rfl
  · rename_i e b o ex n c hk1 hk2
    rw [hk1] at hs3; obtain rfl := tk_slice hs3
    rw [hk2] at hd3; obtain rfl := tk_string hd3
    split at hs
    rotate_left
    · cases hs
    rename_i he
    obtain ⟨infe, de, he1, he2, he3, he4, he5, he6, he7⟩ := ti_parts hE he
    obtain rfl := tk_int he3
    split at hs
    rotate_left
    · cases hs
    rename_i l htk
    cases hm : l.mapM byteOfV with
    | none => simp [hm] at hs
    | some bs =>
      simp [hm] at hs; obtain ⟨rfl, rfl⟩ := hs
      obtain ⟨ns, h1, h2⟩ := bytes_of hm
      have key : ∀ (a : Addr) (c' : Nat) (vs' : List Value), (loadCells a n).run E.P w = .ok ⟨vs'⟩ w → RVs ι l vs' → (convert s d (.slice (some a) n c')).run E.P w = .ok (.string ⟨bs.toArray⟩) w := by
        intro a c' vs' hl hr
        rw [run_convert_bytes_string w s d e (some a) n c' hs2 he2 hd2]
        rw [h1] at hr
        have := hr.ints
        subst this
        rw [run_bytesToString (P := E.P) w a n c' ns hl, push_bytes]
        congr 3
        rw [h2]
        show (#[] : Array UInt8) ++ _ = _
        simp
      cases hx with
      | sliceU _ _ _ _ c' lc hb _ _ _ =>
        obtain ⟨vs', h3, h4, h5⟩ := takeCells_sim (P := E.P) h hb htk
        exact ⟨_, w, ι, key _ _ _ h3 h4, .string _, h, Step.refl _ _ _⟩
      | sliceX _ _ _ _ lc hb _ _ =>
        obtain ⟨vs', h3, h4, h5⟩ := takeCells_sim (P := E.P) h hb htk
        exact ⟨_, w, ι, key _ _ _ h3 h4, .string _, h, Step.refl _ _ _⟩
      | sliceUZ _ _ a' lc hb =>
        obtain ⟨_, _, _, _, _, rfl⟩ := takeCells_parts htk
        exact ⟨_, w, ι, key _ _ [] rfl (by simp; exact .nil), .string _, h, Step.refl _ _ _⟩
      | sliceXZ _ _ a' lc hb =>
        obtain ⟨_, _, _, _, _, rfl⟩ := takeCells_parts htk
        exact ⟨_, w, ι, key _ _ [] rfl (by simp; exact .nil), .string _, h, Step.refl _ _ _⟩
  · cases hs

end
end AbsYtlmcjfnignbdoaa
