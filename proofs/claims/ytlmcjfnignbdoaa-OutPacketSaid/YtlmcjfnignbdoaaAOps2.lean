/-
  Operations: equality, arithmetic, building.
-/
import Derived.Test.YtlmcjfnignbdoaaAOps1
import Derived.Laws.StructEq
import Derived.Laws.Concat
namespace AbsYtlmcjfnignbdoaa
set_option linter.unusedVariables false
set_option linter.unusedSimpArgs false
set_option linter.unusedSectionVars false
open Go

theorem run_und' {P : Program} {t : Nat} {d : TypeDesc} (w : World) (hd : P.underlying t = some d) : (underlying t).run P w = .ok d w := by simp [underlying, hd]
section
variable {P : Program} {t : Nat} (d : Nat) (w : World)
theorem eqI_bool (h : P.underlying t = some .bool) (a b : Bool) : (Op.equalIn (d + 1) t (.bool a) (.bool b)).run P w = .ok (a == b) w := by
  simp only [Op.equalIn, Sem.run_bind, run_und' w h, Result.andThen_ok, Sem.run_pure]
theorem eqI_int {k0 : IntKind} (h : P.underlying t = some (.int k0)) (k : IntKind) (a b : Int) : (Op.equalIn (d + 1) t (.int k a) (.int k b)).run P w = .ok (a == b) w := by
  simp only [Op.equalIn, Sem.run_bind, run_und' w h, Result.andThen_ok, if_true, Sem.run_pure]
theorem eqI_string (h : P.underlying t = some .string) (a b : ByteArray) : (Op.equalIn (d + 1) t (.string a) (.string b)).run P w = .ok (a == b) w := by
  simp only [Op.equalIn, Sem.run_bind, run_und' w h, Result.andThen_ok, Sem.run_pure]
theorem eqI_ptr_l {e : Nat} (h : P.underlying t = some (.pointer e)) (b : Option Addr) : (Op.equalIn (d + 1) t (.pointer none) (.pointer b)).run P w = .ok b.isNone w := by
  simp only [Op.equalIn, Sem.run_bind, run_und' w h, Result.andThen_ok, Sem.run_pure]
theorem eqI_ptr_r {e : Nat} (h : P.underlying t = some (.pointer e)) (a : Addr) : (Op.equalIn (d + 1) t (.pointer (some a)) (.pointer none)).run P w = .ok false w := by
  simp only [Op.equalIn, Sem.run_bind, run_und' w h, Result.andThen_ok, Sem.run_pure]
theorem eqI_ptr {e n : Nat} (h : P.underlying t = some (.pointer e)) (hs : (Go.sizeOf e).run P w = .ok n w) (hn : n ≠ 0) (a b : Addr) :
    (Op.equalIn (d + 1) t (.pointer (some a)) (.pointer (some b))).run P w = (sameAddr a b).run P w := by
  simp only [Op.equalIn, Sem.run_bind, run_und' w h, Result.andThen_ok, hs, ne_eq, hn, not_false_eq_true, if_true]
theorem eqI_if_nn {ms : Array (String × TypeId)} (h : P.underlying t = some (.interface ms)) : (Op.equalIn (d + 1) t .nilIface .nilIface).run P w = .ok true w := by
  simp only [Op.equalIn, Sem.run_bind, run_und' w h, Result.andThen_ok, Sem.run_pure]
theorem eqI_if_ns {ms : Array (String × TypeId)} (h : P.underlying t = some (.interface ms)) (u : TypeId) (v : Value) : (Op.equalIn (d + 1) t .nilIface (.iface u v)).run P w = .ok false w := by
  simp only [Op.equalIn, Sem.run_bind, run_und' w h, Result.andThen_ok, Sem.run_pure]
theorem eqI_if_sn {ms : Array (String × TypeId)} (h : P.underlying t = some (.interface ms)) (u : TypeId) (v : Value) : (Op.equalIn (d + 1) t (.iface u v) .nilIface).run P w = .ok false w := by
  simp only [Op.equalIn, Sem.run_bind, run_und' w h, Result.andThen_ok, Sem.run_pure]
theorem eqI_sl_l {e : Nat} (h : P.underlying t = some (.slice e)) (n c m k : Nat) (b : Option Addr) : (Op.equalIn (d + 1) t (.slice none n c) (.slice b m k)).run P w = .ok b.isNone w := by
  simp only [Op.equalIn, Sem.run_bind, run_und' w h, Result.andThen_ok, Sem.run_pure]
theorem eqI_sl_r {e : Nat} (h : P.underlying t = some (.slice e)) (n c m k : Nat) (a : Addr) : (Op.equalIn (d + 1) t (.slice (some a) n c) (.slice none m k)).run P w = .ok false w := by
  simp only [Op.equalIn, Sem.run_bind, run_und' w h, Result.andThen_ok, Sem.run_pure]
theorem eqI_map_l {k e : Nat} (h : P.underlying t = some (.map k e)) (b : Option Nat) : (Op.equalIn (d + 1) t (.map none) (.map b)).run P w = .ok b.isNone w := by
  simp only [Op.equalIn, Sem.run_bind, run_und' w h, Result.andThen_ok, Sem.run_pure]
theorem eqI_map_r {k e : Nat} (h : P.underlying t = some (.map k e)) (a : Nat) : (Op.equalIn (d + 1) t (.map (some a)) (.map none)).run P w = .ok false w := by
  simp only [Op.equalIn, Sem.run_bind, run_und' w h, Result.andThen_ok, Sem.run_pure]
theorem eqI_fn_nn {a b : Array TypeId} {c : Bool} (h : P.underlying t = some (.func a b c)) : (Op.equalIn (d + 1) t .nilFunc .nilFunc).run P w = .ok true w := by
  simp only [Op.equalIn, Sem.run_bind, run_und' w h, Result.andThen_ok, Sem.run_pure]
theorem eqI_fn_ns {a b : Array TypeId} {c : Bool} (h : P.underlying t = some (.func a b c)) (f : Fn) (x y : Array Value) : (Op.equalIn (d + 1) t .nilFunc (.func f x y)).run P w = .ok false w := by
  simp only [Op.equalIn, Sem.run_bind, run_und' w h, Result.andThen_ok, Sem.run_pure]
theorem eqI_fn_sn {a b : Array TypeId} {c : Bool} (h : P.underlying t = some (.func a b c)) (f : Fn) (x y : Array Value) : (Op.equalIn (d + 1) t (.func f x y) .nilFunc).run P w = .ok false w := by
  simp only [Op.equalIn, Sem.run_bind, run_und' w h, Result.andThen_ok, Sem.run_pure]
end

section
variable {E : Env} {ι : Emb} {H : AHeap} {w : World}

theorem eqf_step {P : Program} {d : Nat} {xs ys : Array Value} {f : Field} {fs : List Field} {a b : Value} {r s : Bool} (hn : (f.name == "_") = false)
    (ha : (part f.type xs f.offset).run P w = .ok a w) (hb : (part f.type ys f.offset).run P w = .ok b w) (he : (Op.equalIn d f.type a b).run P w = .ok r w)
    (hr : r = true → (Op.eqFields d xs ys fs).run P w = .ok s w) (hs : r = false → s = false) : (Op.eqFields d xs ys (f :: fs)).run P w = .ok s w := by
  have hn' : f.name ≠ "_" := by simpa using hn
  rw [Op.eqFields]
  simp only [if_pos hn', Sem.run_bind, ha, hb, he, Result.andThen_ok]
  cases r
  · simp [hs rfl]
  · simpa using hr rfl

theorem sameAddr_ne {P : Program} {a b : Addr} {C D : Array Value} {t u : TypeId} {f g : Nat × Nat} (ha : w.heap[a.block]? = some (.cells C t f)) (hb : w.heap[b.block]? = some (.cells D u g))
    (hne : a.block ≠ b.block) (hfa : f.2 ≤ f.1) (hfb : g.2 ≤ g.1) : (sameAddr a b).run P w = .ok false w := by
  have fa : ∀ x : Addr, x.block = a.block → w.frozen? x = false := fun x hx => by
    simp only [World.frozen?, hx, ha, Bool.and_eq_false_iff, decide_eq_false_iff_not]; omega
  have fb : ∀ x : Addr, x.block = b.block → w.frozen? x = false := fun x hx => by
    simp only [World.frozen?, hx, hb, Bool.and_eq_false_iff, decide_eq_false_iff_not]; omega
  have hsa : w.shape? a.block = some (t, C.size) := by simp [World.shape?, ha]
  have hsb : w.shape? b.block = some (u, D.size) := by simp [World.shape?, hb]
  have f1 : w.frozen? a = false := fa a rfl
  have f2 : w.frozen? { block := a.block, off := C.size } = false := fa _ rfl
  have f3 : w.frozen? { block := b.block, off := D.size } = false := fb _ rfl
  have f4 : w.frozen? b = false := fb b rfl
  have e1 : (a.block == b.block) = false := by simpa using hne
  simp [sameAddr, e1, f1, f2, f3, f4, noView, viewAt, hsa, hsb, mayBeOne, stringish]

mutual
theorem aeq_sim (hE : TyOk E) {H : AHeap} (h : Rel E ι H w) : ∀ (d D t : Nat) (x x' y y' : Value) (r : Bool), d ≤ D → RV ι x x' → RV ι y y' → aeq E H d t x y = some r →
    (Op.equalIn D t x' y').run E.P w = .ok r w
  | 0, D, t, x, x', y, y', r, _, _, _, hq => by simp [aeq] at hq
  | d + 1, D, t, x, x', y, y', r, hD, hx, hy, hq => by
    obtain ⟨D, rfl⟩ : ∃ m, D = m + 1 := ⟨D - 1, by omega⟩
    rw [aeq] at hq
    split at hq
    · simp at hq
    rename_i i ht
    obtain ⟨inf, dd, h1, h2, h3, h4, h5, h6, h7⟩ := ti_parts hE ht
    split at hq
    · rename_i hk; rw [hk] at h3; obtain rfl := tk_bool h3
      cases hx; cases hy; injection hq with hq; subst hq
      exact eqI_bool D w h2 _ _
    · rename_i hk; rw [hk] at h3; obtain rfl := tk_int h3
      cases hx; cases hy
      split at hq
      · rename_i hkk; injection hq with hq; subst hq; subst hkk
        exact eqI_int D w h2 _ _ _
      · cases hq
    · rename_i hk; rw [hk] at h3; obtain rfl := tk_string h3
      cases hx; cases hy; injection hq with hq; subst hq
      exact eqI_string D w h2 _ _
    · rename_i hk; rw [hk] at h3; obtain rfl := tk_ptr h3
      injection hq with hq; subst hq
      cases hx
      cases hy <;> exact eqI_ptr_l D w h2 _
    · rename_i hk; rw [hk] at h3; obtain rfl := tk_ptr h3
      injection hq with hq; subst hq
      cases hx; cases hy; exact eqI_ptr_r D w h2 _
    · rename_i e a o b p hk
      rw [hk] at h3; obtain rfl := tk_ptr h3
      cases hx with | ptr _ _ l hb =>
      cases hy with | ptr _ _ l' hb' =>
      split at hq
      · cases hq
      rename_i j hte
      split at hq
      · cases hq
      rename_i hjs
      rw [eqI_ptr D w h2 (run_sizeOf' hE hte w) hjs]
      split at hq
      · rename_i hab
        subst hab
        rw [hb] at hb'; injection hb' with hb'; subst hb'
        injection hq with hq; subst hq
        have e1 : ((⟨l.blk, l.base + o, none⟩ : Addr) == ⟨l.blk, l.base + p, none⟩) = (o == p) := by
          rw [Bool.eq_iff_iff, beq_iff_eq, beq_iff_eq]
          constructor
          · intro e; injection e with _ e _; omega
          · intro e; rw [e]
        simp [sameAddr, e1]
      · rename_i hab
        split at hq
        rotate_left
        · cases hq
        rename_i ca cb hga hgb
        injection hq with hq; subst hq
        obtain ⟨C, ty, fz, a1, a2, a3, a4, a5, a6, a7⟩ := h.cells _ _ _ _ _ hb hga
        obtain ⟨C', ty', fz', b1, b2, b3, b4, b5, b6, b7⟩ := h.cells _ _ _ _ _ hb' hgb
        have hne := h.inj _ _ _ _ hb hb' hab (by simp [wrt, hga]) (by simp [live, hgb])
        exact sameAddr_ne a1 b1 hne (a7 rfl rfl) (b7 rfl rfl)
    · rename_i hk; rw [hk] at h3; obtain ⟨ms, rfl, hms⟩ := tk_iface h3
      cases hx; cases hy; injection hq with hq; subst hq; exact eqI_if_nn D w h2
    · rename_i hk; rw [hk] at h3; obtain ⟨ms, rfl, hms⟩ := tk_iface h3
      cases hx; cases hy; injection hq with hq; subst hq; exact eqI_if_ns D w h2 _ _
    · rename_i hk; rw [hk] at h3; obtain ⟨ms, rfl, hms⟩ := tk_iface h3
      cases hx; cases hy; injection hq with hq; subst hq; exact eqI_if_sn D w h2 _ _
    · rename_i fs xs ys hk; rw [hk] at h3; obtain ⟨F, rfl, rfl⟩ := tk_struct h3
      cases hx with | agg xs xs' hxs =>
      cases hy with | agg ys ys' hys =>
      split at hq
      rotate_left
      · cases hq
      rename_i heq
      obtain ⟨h8, h9⟩ := h7 heq
      have hf : E.P.fieldsOf t = F := by simp [Program.fieldsOf, h2]
      rw [run_equalIn_struct (P := E.P) w D t ⟨xs'⟩ ⟨ys'⟩ (by rw [hf]; exact h2) h8, hf]
      exact aeqs_sim hE h.empty d D F.toList _ _ _ _ r (by omega) hxs hys hq
    · rename_i hk; rw [hk] at h3; obtain rfl := tk_slice h3
      injection hq with hq; subst hq
      cases hx
      cases hy <;> exact eqI_sl_l D w h2 _ _ _ _ _
    · rename_i hk; rw [hk] at h3; obtain rfl := tk_slice h3
      injection hq with hq; subst hq
      cases hy
      cases hx <;> exact eqI_sl_r D w h2 _ _ _ _ _
    · rename_i hk; rw [hk] at h3; obtain rfl := tk_map h3
      injection hq with hq; subst hq
      cases hx
      cases hy <;> exact eqI_map_l D w h2 _
    · rename_i hk; rw [hk] at h3; obtain rfl := tk_map h3
      injection hq with hq; subst hq
      cases hy
      cases hx; exact eqI_map_r D w h2 _
    · rename_i hk; rw [hk] at h3; obtain ⟨_, _, _, rfl⟩ := tk_func h3
      cases hx; cases hy; injection hq with hq; subst hq; exact eqI_fn_nn D w h2
    · rename_i hk; rw [hk] at h3; obtain ⟨_, _, _, rfl⟩ := tk_func h3
      cases hx; cases hy; injection hq with hq; subst hq; exact eqI_fn_ns D w h2 _ _ _
    · rename_i hk; rw [hk] at h3; obtain ⟨_, _, _, rfl⟩ := tk_func h3
      cases hx; cases hy; injection hq with hq; subst hq; exact eqI_fn_sn D w h2 _ _ _
    · cases hq
theorem aeqs_sim (hE : TyOk E) {H : AHeap} (h : Rel E ι H w) : ∀ (d D : Nat) (F : List Field) (xs xs' ys ys' : List Value) (r : Bool), d ≤ D → RVs ι xs xs' → RVs ι ys ys' →
    aeqs E H d (F.map fun f => (f.offset, f.type, f.name == "_")) xs ys = some r → (Op.eqFields D ⟨xs'⟩ ⟨ys'⟩ F).run E.P w = .ok r w
  | d, D, [], xs, xs', ys, ys', r, _, _, _, hq => by
    simp only [List.map_nil] at hq
    rw [aeqs] at hq
    simp at hq; subst hq; simp [Op.eqFields]
  | 0, D, f :: F, xs, xs', ys, ys', r, _, _, _, hq => by simp [aeqs] at hq
  | d + 1, D, f :: F, xs, xs', ys, ys', r, hD, hx, hy, hq => by
    simp only [List.map_cons] at hq
    rw [aeqs] at hq
    split at hq
    · rename_i hbl
      have hn' : ¬ (f.name ≠ "_") := by simpa using hbl
      rw [Op.eqFields, if_neg hn']
      exact aeqs_sim hE h d D F _ _ _ _ r (by omega) hx hy hq
    · rename_i hbl
      split at hq
      rotate_left
      · simp at hq
      rename_i a b ha hb
      obtain ⟨a', ha1, ha2⟩ := apart_sim hE hx ha w
      obtain ⟨b', hb1, hb2⟩ := apart_sim hE hy hb w
      split at hq
      · rename_i he
        exact eqf_step (by simpa using hbl) ha1 hb1 (aeq_sim hE h d D _ _ _ _ _ _ (by omega) ha2 hb2 he) (fun _ => aeqs_sim hE h d D F _ _ _ _ r (by omega) hx hy hq) (fun e => by simp at e)
      · rename_i he
        simp at hq; subst hq
        exact eqf_step (by simpa using hbl) ha1 hb1 (aeq_sim hE h d D _ _ _ _ _ _ (by omega) ha2 hb2 he) (fun e => by simp at e) (fun _ => rfl)
      · simp at hq
end
end
end AbsYtlmcjfnignbdoaa
