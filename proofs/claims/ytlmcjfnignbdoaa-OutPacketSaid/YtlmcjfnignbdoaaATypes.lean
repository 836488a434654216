/-
  What the table of types says of a program's types, and of values.
-/
import Derived.Test.YtlmcjfnignbdoaaAMem
namespace AbsYtlmcjfnignbdoaa
set_option linter.unusedVariables false
set_option linter.unusedSimpArgs false
set_option linter.unusedSectionVars false
open Go

structure TyOk (E : Env) : Prop where
  ty : ∀ t i, E.ty.get t = some i → mkTI E.P t = some i

theorem empty_bytes {s : ByteArray} (h : s.size = 0) : s = ⟨#[]⟩ := by
  cases s with | mk d => simp [ByteArray.size] at h; simp [h]
theorem zvOf_val {v : Value} {z : ZV} (h : zvOf v = some z) : z.val = v := by
  unfold zvOf at h
  split at h
  case h_3 s =>
    split at h
    · rename_i h1
      injection h with h2
      subst h2
      rw [empty_bytes h1]; rfl
    · injection h
  case h_9 => cases h
  all_goals (injection h with h2; subst h2; rfl)
theorem mapM_zv {l : List Value} {zs : List ZV} (h : l.mapM zvOf = some zs) : zs.map ZV.val = l := by
  induction l generalizing zs with
  | nil => simp at h; subst h; rfl
  | cons v l ih =>
    rw [List.mapM_cons] at h
    cases hv : zvOf v with
    | none => simp [hv] at h
    | some z =>
      cases hl : l.mapM zvOf with
      | none => simp [hv, hl] at h
      | some r => simp [hv, hl] at h; subst h; simp [zvOf_val hv, ih hl]

theorem isAgg_of {d : TypeDesc} {i : TI} (h : tkOf d = i.k) : i.isAgg = aggD d := by
  unfold TI.isAgg; rw [← h]; cases d <;> rfl

section
variable {E : Env} (hE : TyOk E) {t : Nat} {i : TI} (ht : E.ty.get t = some i)
include hE ht
theorem ti_parts : ∃ inf d, E.P.info? t = some inf ∧ E.P.underlying t = some d ∧ tkOf d = i.k ∧ inf.size = i.size ∧ inf.bytes = i.bytes ∧
    (∀ zs, i.zero = some zs → ∃ z, inf.zero = some z ∧ z.cells.toList = zs.map ZV.val ∧ aggV z = i.isAgg) ∧ (i.eqOk = true → E.P.stoodInHeld t = false ∧ E.P.eqGuardType E.P.depth t = false) := by
  have h := hE.ty t i ht
  unfold mkTI at h
  cases hi : E.P.info? t with
  | none => simp [hi] at h
  | some inf =>
    cases hd : E.P.underlying t with
    | none => simp [hi, hd] at h
    | some d =>
      simp [hi, hd] at h
      subst h
      refine ⟨inf, d, rfl, rfl, rfl, rfl, rfl, ?_, ?_⟩
      · intro zs hz
        cases hz' : inf.zero with
        | none => simp [hz'] at hz
        | some z =>
          simp only [hz', Option.bind_some] at hz
          split at hz
          · rename_i hav
            exact ⟨z, rfl, (mapM_zv hz).symm, hav.trans (isAgg_of rfl).symm⟩
          · cases hz
      · intro he; simpa using he
variable (w : World)
theorem run_sizeOf' : (Go.sizeOf t).run E.P w = .ok i.size w := by
  obtain ⟨inf, d, h1, h2, h3, h4, h5, h6, h7⟩ := ti_parts hE ht
  simp [Go.sizeOf, typeInfo, h1, h4]
theorem run_bytes : (typeInfo t).run E.P w = .ok ((E.P.info? t).getD default) w ∧ ((E.P.info? t).getD default).bytes = i.bytes := by
  obtain ⟨inf, d, h1, h2, h3, h4, h5, h6, h7⟩ := ti_parts hE ht
  simp [typeInfo, h1, h5]
theorem run_isAgg' : (isAgg t).run E.P w = .ok i.isAgg w := by
  obtain ⟨inf, d, h1, h2, h3, h4, h5, h6, h7⟩ := ti_parts hE ht
  rw [isAgg_of h3]
  simp only [isAgg, underlying, Sem.run_bind, run_program, Result.andThen_ok, h2]
  cases d <;> rfl
theorem run_und {d : TypeDesc} (hd : E.P.underlying t = some d) : (underlying t).run E.P w = .ok d w := by simp [underlying, hd]
theorem run_zero {zs : List ZV} (hz : i.zero = some zs) : ∃ z, (zeroValue t).run E.P w = .ok z w ∧ z.cells.toList = zs.map ZV.val ∧ aggV z = i.isAgg := by
  obtain ⟨inf, d, h1, h2, h3, h4, h5, h6, h7⟩ := ti_parts hE ht
  obtain ⟨z, h8, h9⟩ := h6 zs hz
  exact ⟨z, by simp [zeroValue, typeInfo, h1, h8], h9⟩
end

theorem tk_slice {d : TypeDesc} {e : Nat} (h : tkOf d = .slice e) : d = .slice e := by cases d <;> simp [tkOf] at h; subst h; rfl
theorem tk_arr {d : TypeDesc} {n e : Nat} (h : tkOf d = .arr n e) : d = .array n e := by cases d <;> simp [tkOf] at h; obtain ⟨rfl, rfl⟩ := h; rfl
theorem tk_string {d : TypeDesc} (h : tkOf d = .string) : d = .string := by cases d <;> simp [tkOf] at h; rfl
theorem tk_int {d : TypeDesc} {k : IntKind} (h : tkOf d = .int k) : d = .int k := by cases d <;> simp [tkOf] at h; subst h; rfl
theorem tk_bool {d : TypeDesc} (h : tkOf d = .bool) : d = .bool := by cases d <;> simp [tkOf] at h; rfl
theorem tk_ptr {d : TypeDesc} {e : Nat} (h : tkOf d = .ptr e) : d = .pointer e := by cases d <;> simp [tkOf] at h; subst h; rfl
theorem tk_map {d : TypeDesc} {k e : Nat} (h : tkOf d = .map k e) : d = .map k e := by cases d <;> simp [tkOf] at h; obtain ⟨rfl, rfl⟩ := h; rfl
theorem tk_struct {d : TypeDesc} {fs : List (Nat × Nat × Bool)} (h : tkOf d = .struct fs) : ∃ F, d = .struct F ∧ fs = F.toList.map fun f => (f.offset, f.type, f.name == "_") := by
  cases d <;> simp [tkOf] at h; rename_i F; exact ⟨F, rfl, h.symm⟩
theorem tk_iface {d : TypeDesc} {b : Bool} (h : tkOf d = .iface b) : ∃ ms, d = .interface ms ∧ ms.isEmpty = b := by cases d <;> simp [tkOf] at h; rename_i ms; exact ⟨ms, rfl, by simpa using h⟩
theorem tk_func {d : TypeDesc} (h : tkOf d = .func) : ∃ a b c, d = .func a b c := by cases d <;> simp [tkOf] at h; exact ⟨_, _, _, rfl⟩

theorem azeroV_sim {E : Env} (hE : TyOk E) {ι : Emb} {t : Nat} {v : Value} (h : azeroV E t = some v) (w : World) : ∃ z, (zeroValue t).run E.P w = .ok z w ∧ RV ι v z := by
  unfold azeroV at h
  split at h
  · cases h
  rename_i i ht
  split at h
  · cases h
  rename_i zs hzs
  obtain ⟨z, h1, h2, h3⟩ := run_zero hE ht w hzs
  refine ⟨z, h1, ?_⟩
  split at h
  · rename_i hagg
    injection h with h; subst h
    rw [hagg] at h3
    cases z <;> simp [aggV] at h3
    rename_i cs
    simp only [Value.cells] at h2
    have : cs = ⟨zs.map ZV.val⟩ := by rw [← h2]
    rw [this]
    exact .agg _ _ (RVs.zeros zs)
  · rename_i hagg
    have hagg' : i.isAgg = false := by simpa using hagg
    rw [hagg'] at h3
    split at h
    · injection h with h; subst h
      have : z.cells = #[z] := by cases z <;> first | rfl | simp [aggV] at h3
      rw [this] at h2
      simp at h2
      rw [h2]
      rename_i zz
      exact RV.closed zz.closed
    · cases h

theorem azero_of {E : Env} {t : Nat} {z : List Value} (h : azero E t = some z) : ∃ i zs, E.ty.get t = some i ∧ i.zero = some zs ∧ z = zs.map ZV.val := by
  unfold azero at h
  cases hi : E.ty.get t with
  | none => simp [hi] at h
  | some i =>
    cases hz : i.zero with
    | none => simp [hi, hz] at h
    | some zs => simp [hi, hz] at h; exact ⟨i, zs, rfl, hz, h.symm⟩

/-! ### reading -/
section
variable {E : Env} (hE : TyOk E) {ι : Emb} {H : AHeap} {w : World} (h : Rel E ι H w)
include hE h

theorem aload_sim {t : Nat} {x x' v : Value} (hx : RV ι x x') (hl : aload E H t x = some v) : ∃ v', (Instr.loadAt t x').run E.P w = .ok v' w ∧ RV ι v v' := by
  unfold aload at hl
  split at hl
  rotate_left
  · simp at hl
  rename_i b o
  cases hx with | ptr _ _ l hb =>
  split at hl
  rotate_left
  · simp at hl
  rename_i cs wr sz i hg ht
  obtain ⟨C, ty, fz, h1, h2, h3, h4, h5, h6, h7⟩ := h.cells _ _ _ _ _ hb hg
  simp only [Instr.loadAt, Instr.sureAddr, loadVar, Sem.run_bind, Sem.run_pure, Result.andThen_ok, run_isAgg' hE ht]
  split at hl
  · rename_i hagg
    split at hl
    · rename_i hlen
      simp at hl; subst hl
      simp only [hagg, if_true, Sem.run_bind, run_sizeOf' hE ht, Result.andThen_ok]
      rw [run_loadCells' h1 (by omega)]
      refine ⟨_, rfl, ?_⟩
      rw [show l.base + o = l.base + o from rfl]
      exact .agg _ _ (h5.slice hlen)
    · simp at hl
  · rename_i hagg
    simp only [hagg, Bool.false_eq_true, if_false]
    obtain ⟨v', h8, h9⟩ := h5 _ _ hl
    refine ⟨v', ?_, h9⟩
    simp [cell_of h1, h8]
end

end AbsYtlmcjfnignbdoaa
