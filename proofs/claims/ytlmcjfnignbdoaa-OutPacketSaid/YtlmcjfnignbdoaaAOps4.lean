/-
  Operations: cuts, maps, appends.
-/
import Derived.Test.YtlmcjfnignbdoaaAOps3
namespace AbsYtlmcjfnignbdoaa
set_option linter.unusedVariables false
set_option linter.unusedSimpArgs false
set_option linter.unusedSectionVars false
open Go

section
variable {E : Env} {ι : Emb} {H H' : AHeap} {w : World}

def RO (ι : Emb) (a b : Option Value) : Prop := match a, b with | none, none => True | some x, some y => RV ι x y | _, _ => False

theorem bounds_sim {P : Program} {isSlice : Bool} {len cap m h l : Nat} {lo lo' hi hi' mx mx' : Option Value} (hlo : RO ι lo lo') (hhi : RO ι hi hi') (hmx : RO ι mx mx') (hno : (mx.isSome && hi.isNone) = false)
    (hm : abound mx cap cap = some m) (hh : abound hi len m = some h) (hl : abound lo 0 h = some l) (w : World) :
    (Instr.sliceBounds isSlice len cap lo' hi' mx').run P w = .ok (l, h, m) w := by
  have e1 := fun code => abound_sim (ι := ι) hmx hm code P w
  have e2 := fun code => abound_sim (ι := ι) hhi hh code P w
  have e3 := fun code => abound_sim (ι := ι) hlo hl code P w
  cases mx' <;> cases hi' <;> cases lo' <;> cases mx <;> cases hi <;> cases lo <;> simp [RO] at hmx hhi hlo hno <;> simp_all [Instr.sliceBounds]

theorem abound_mono {v : Option Value} {o m m' r : Nat} (h : abound v o m = some r) (hm : m ≤ m') : abound v o m' = some r := by
  unfold abound at *
  split at h
  · exact h
  · split at h
    · rename_i hn; simp at h; subst h; rw [if_pos ⟨hn.1, by omega⟩]
    · simp at h
  · simp at h
theorem abound_le {v : Option Value} {o m r : Nat} (h : abound v o m = some r) (ho : o ≤ m) : r ≤ m := by
  unfold abound at h
  split at h
  · simp at h; omega
  · split at h
    · rename_i hn; simp at h; omega
    · simp at h
  · simp at h

theorem abound_some_le {v : Value} {o m r : Nat} (h : abound (some v) o m = some r) : r ≤ m := by
  cases v <;> simp [abound] at h
  omega
theorem abound_some_other {v : Value} {o o' m r : Nat} (h : abound (some v) o m = some r) : abound (some v) o' m = some r := by
  cases v <;> simp [abound] at h ⊢
  exact h

theorem szOk_loc (h : Rel E ι H w) {b n : Nat} {l : Loc} (hb : ι b = some l) (hs : szOk H b n = true) : l.sz = 0 ∨ l.sz = n := by
  unfold szOk at hs
  split at hs
  · rename_i cs wr sz hg
    obtain ⟨C, ty, fz, h1, h2, h3, h4, h5, h6, h7⟩ := h.cells _ _ _ _ _ hb hg
    simp at hs; omega
  · simp at hs

theorem RO.isSome {a b : Option Value} (h : RO ι a b) : a.isSome = b.isSome := by cases a <;> cases b <;> simp [RO] at h ⊢

theorem run_slice_gen {P : Program} {t e sz len cap l h m : Nat} {a : Option Addr} {lo hi mx : Option Value} (ht : P.underlying t = some (.slice e)) (hsz : ∀ w, (Go.sizeOf e).run P w = .ok sz w)
    (hb : (Instr.sliceBounds true len cap lo hi mx).run P w = .ok (l, h, m) w) :
    (Instr.sliceAt t (.slice a len cap) lo hi mx).run P w = .ok (.slice (if m = l then a else a.map (·.add (l * sz))) (h - l) (m - l)) w := by
  simp only [Instr.sliceAt, Sem.run_bind, run_und' w ht, Result.andThen_ok, Instr.slice, hb, hsz, Sem.run_pure]

theorem aslice_sim (hE : TyOk E) (hR : Rel E ι H w) {t : Nat} {x x' v : Value} {lo lo' hi hi' mx mx' : Option Value} (hx : RV ι x x') (hlo : RO ι lo lo') (hhi : RO ι hi hi') (hmx : RO ι mx mx')
    (hs : aslice E H t x lo hi mx = some v) : ∃ v', (Instr.sliceAt t x' lo' hi' mx').run E.P w = .ok v' w ∧ RV ι v v' := by
  unfold aslice at hs
  split at hs
  · simp at hs
  rename_i i ht
  obtain ⟨inf, d, h1, h2, h3, h4, h5, h6, h7⟩ := ti_parts hE ht
  split at hs
  · -- a string
    rename_i s hk
    rw [hk] at h3; obtain rfl := tk_string h3
    cases hx with | string _ =>
    split at hs
    · simp at hs
    rename_i hmn
    have hmx0 : mx = none := by cases mx <;> simp at hmn ⊢
    subst hmx0
    have hmx1 : mx' = none := by cases mx' <;> simp [RO] at hmx ⊢
    subst hmx1
    split at hs
    rotate_left
    · simp at hs
    rename_i h hh
    split at hs
    rotate_left
    · simp at hs
    rename_i l hl
    simp at hs; subst hs
    have hb := bounds_sim (ι := ι) (P := E.P) (isSlice := false) (len := s.size) (cap := s.size) (m := s.size) (mx := none) (mx' := none) hlo hhi trivial rfl rfl hh hl w
    exact ⟨_, by simp [Instr.sliceAt, run_und hE ht w h2, Instr.slice, hb], .string _⟩
  · -- a slice that isn't nil
    rename_i e b o ex len c hk
    rw [hk] at h3; obtain rfl := tk_slice h3
    split at hs
    · simp at hs
    rename_i j hj
    split at hs
    · simp at hs
    rename_i hno
    simp at hno
    obtain ⟨hno, hszok⟩ := hno
    have hno' : (mx.isSome && hi.isNone) = false := by
      cases mx <;> cases hi <;> simp at hno ⊢
    split at hs
    · simp at hs
    rename_i m hm
    split at hs
    · simp at hs
    rename_i h hh
    split at hs
    · simp at hs
    rename_i l hl
    simp at hs; subst hs
    have hlh : l ≤ h := abound_le hl (by omega)
    have hmc : m ≤ c := abound_le hm (Nat.le_refl _)
    have hsz := run_sizeOf' hE hj
    cases hx with
    | sliceU _ _ _ _ c' lc hb hnc hcc htt =>
      have hlsz := szOk_loc hR hb hszok
      cases hmx0 : mx with
      | none =>
        subst hmx0
        have hmx1 : mx' = none := by cases mx' <;> simp [RO] at hmx ⊢
        subst hmx1
        simp [abound] at hm; subst hm
        have hhm := abound_le hh hnc
        have hb' := bounds_sim (ι := ι) (P := E.P) (isSlice := true) (len := len) (cap := c') (m := c') (mx := none) (mx' := none) hlo hhi trivial rfl rfl (abound_mono hh hcc) hl w
        refine ⟨_, run_slice_gen h2 hsz hb', ?_⟩
        by_cases hc0 : c' = l
        · subst hc0
          have e1 : h - c' = 0 := by omega
          have e2 : c - c' = 0 := by omega
          simp only [if_true, e1, e2, Nat.sub_self]
          exact .sliceUZ _ _ _ _ hb
        · rw [if_neg hc0]
          simp only [Option.map_some, add_addr, Option.isSome_none, Bool.false_eq_true, if_false]
          rw [Nat.add_assoc]
          refine .sliceU b _ _ _ _ lc hb (by omega) (by omega) ?_
          rcases htt with h0 | h0
          · exact .inl h0
          · rcases hlsz with h8 | h8
            · exact .inl h8
            · right
              rw [← h8, Nat.sub_mul]
              have : l * lc.sz ≤ c' * lc.sz := Nat.mul_le_mul_right _ (by omega)
              omega
      | some mv =>
        subst hmx0
        have hm' := abound_mono (m' := c') (o := c) hm hcc
        have hm'' : abound (some mv) c' c' = some m := abound_some_other hm'
        have hhm : h ≤ m := by
          cases hi with
          | none => simp at hno'
          | some hv => exact abound_some_le hh
        have hb' := bounds_sim (ι := ι) (P := E.P) (isSlice := true) (len := len) (cap := c') (m := m) hlo hhi hmx hno' hm'' hh hl w
        refine ⟨_, run_slice_gen h2 hsz hb', ?_⟩
        simp only [Option.isSome_some, if_true]
        by_cases hc0 : m = l
        · subst hc0
          have e1 : h - m = 0 := by omega
          simp only [if_true, e1, Nat.sub_self]
          exact .sliceXZ _ _ _ _ hb
        · rw [if_neg hc0]
          simp only [Option.map_some, add_addr]
          rw [Nat.add_assoc]
          refine .sliceX b _ _ _ lc hb (by omega) ?_
          rcases htt with h0 | h0
          · exact .inl h0
          · rcases hlsz with h8 | h8
            · exact .inl h8
            · right
              rw [← h8, Nat.sub_mul]
              have : l * lc.sz ≤ m * lc.sz := Nat.mul_le_mul_right _ (by omega)
              have : m * lc.sz ≤ c' * lc.sz := Nat.mul_le_mul_right _ (by omega)
              omega
    | sliceUZ _ _ a' lc hb =>
      have hm0 : m = 0 := by omega
      subst hm0
      have hh0 : h = 0 := by have := abound_le hh (Nat.le_refl _); omega
      subst hh0
      have hl0 : l = 0 := by omega
      subst hl0
      have hb' := bounds_sim (ι := ι) (P := E.P) (isSlice := true) hlo hhi hmx hno' hm hh hl w
      refine ⟨_, run_slice_gen h2 hsz hb', ?_⟩
      simp only [if_true, Nat.sub_self]
      cases mx with
      | none => exact .sliceUZ _ _ _ _ hb
      | some _ => exact .sliceXZ _ _ _ _ hb
    | sliceX _ _ _ _ lc hb hnc htt =>
      have hlsz := szOk_loc hR hb hszok
      have hhm : h ≤ m := by
        cases hi with
        | none => cases mx with
          | none => simp [abound] at hm hh; omega
          | some _ => simp at hno'
        | some hv => exact abound_some_le hh
      have hb' := bounds_sim (ι := ι) (P := E.P) (isSlice := true) (len := len) (cap := c) (m := m) hlo hhi hmx hno' hm hh hl w
      refine ⟨_, run_slice_gen h2 hsz hb', ?_⟩
      have hex : (if mx.isSome then some 1 else some 1 : Option Nat) = some 1 := by cases mx <;> rfl
      rw [hex]
      by_cases hc0 : m = l
      · subst hc0
        have e1 : h - m = 0 := by omega
        simp only [if_true, e1, Nat.sub_self]
        exact .sliceXZ _ _ _ _ hb
      · rw [if_neg hc0]
        simp only [Option.map_some, add_addr]
        rw [Nat.add_assoc]
        refine .sliceX b _ _ _ lc hb (by omega) ?_
        rcases htt with h0 | h0
        · exact .inl h0
        · rcases hlsz with h8 | h8
          · exact .inl h8
          · right
            rw [← h8, Nat.sub_mul]
            have : l * lc.sz ≤ m * lc.sz := Nat.mul_le_mul_right _ (by omega)
            have : m * lc.sz ≤ c * lc.sz := Nat.mul_le_mul_right _ (by omega)
            omega
    | sliceXZ _ _ a' lc hb =>
      have hm0 : m = 0 := by omega
      subst hm0
      have hh0 : h = 0 := by have := abound_le hh (Nat.le_refl _); omega
      subst hh0
      have hl0 : l = 0 := by omega
      subst hl0
      have hb' := bounds_sim (ι := ι) (P := E.P) (isSlice := true) hlo hhi hmx hno' hm hh hl w
      refine ⟨_, run_slice_gen h2 hsz hb', ?_⟩
      simp only [if_true, Nat.sub_self]
      cases mx with
      | none => exact .sliceXZ _ _ _ _ hb
      | some _ => exact .sliceXZ _ _ _ _ hb
  · -- nil
    rename_i e hk
    rw [hk] at h3; obtain rfl := tk_slice h3
    cases hx
    split at hs
    · simp at hs
    rename_i j hj
    split at hs
    · simp at hs
    rename_i hno
    have hno' : (mx.isSome && hi.isNone) = false := by
      cases hq : (mx.isSome && hi.isNone) with
      | false => rfl
      | true => exact absurd hq hno
    split at hs
    · simp at hs
    rename_i m hm
    split at hs
    · simp at hs
    rename_i h hh
    split at hs
    · simp at hs
    rename_i l hl
    simp at hs; subst hs
    have hmc : m ≤ 0 := abound_le hm (Nat.le_refl _)
    have hm0 : m = 0 := by omega
    subst hm0
    have hh0 : h = 0 := by have := abound_le hh (Nat.le_refl _); omega
    subst hh0
    have hl0 : l = 0 := by have := abound_le hl (Nat.le_refl _); omega
    subst hl0
    have hb' := bounds_sim (ι := ι) (P := E.P) (isSlice := true) hlo hhi hmx hno' hm hh hl w
    refine ⟨_, run_slice_gen h2 (run_sizeOf' hE hj) hb', ?_⟩
    simp only [if_true, Nat.sub_self]
    exact .slice0
  · -- an array
    rename_i n e b o hk
    rw [hk] at h3; obtain rfl := tk_arr h3
    cases hx with | ptr _ _ lc hb =>
    split at hs
    · simp at hs
    rename_i j hj
    split at hs
    · simp at hs
    rename_i hno
    simp at hno
    obtain ⟨hno, hszok⟩ := hno
    subst hno
    have hmx1 : mx' = none := by cases mx' <;> simp [RO] at hmx ⊢
    subst hmx1
    split at hs
    · simp at hs
    rename_i h hh
    split at hs
    · simp at hs
    rename_i l hl
    simp at hs; subst hs
    have hlh : l ≤ h := abound_le hl (by omega)
    have hhn : h ≤ n := abound_le hh (Nat.le_refl _)
    have hlsz : lc.sz = 0 := by have := szOk_loc hR hb hszok; omega
    have hb' := bounds_sim (ι := ι) (P := E.P) (isSlice := false) (len := n) (cap := n) (m := n) (mx := none) (mx' := none) hlo hhi trivial rfl rfl hh hl w
    have hrun : (Instr.sliceAt t (.pointer (some ⟨lc.blk, lc.base + o, none⟩)) lo' hi' none).run E.P w =
        .ok (.slice (some (if n = l then ⟨lc.blk, lc.base + o, none⟩ else (⟨lc.blk, lc.base + o, none⟩ : Addr).add (l * j.size))) (h - l) (n - l)) w := by
      simp only [Instr.sliceAt, Sem.run_bind, run_und' w h2, Result.andThen_ok, Instr.sureAddr, Sem.run_pure, hb', run_sizeOf' hE hj]
    refine ⟨_, hrun, ?_⟩
    by_cases hc0 : n = l
    · subst hc0
      have e1 : h - n = 0 := by omega
      simp only [if_true, e1, Nat.sub_self]
      exact .sliceXZ _ _ _ _ hb
    · rw [if_neg hc0, add_addr, Nat.add_assoc]
      exact .sliceX b _ _ _ lc hb (by omega) (.inl hlsz)
  · simp at hs

end
end AbsYtlmcjfnignbdoaa
