/-
  What a world holds of a law's arguments, laid into the abstract heap.
-/
import Derived.Test.YtlmcjfnignbdoaaAW3
import Derived.ChangeReads
import Derived.DataReads
import Derived.ChangeArms
namespace AbsYtlmcjfnignbdoaa
set_option linter.unusedVariables false
set_option linter.unusedSimpArgs false
set_option linter.unusedSectionVars false
open Go

/-- what lies in cells, by a type -/
def Typed (E : Env) (H : AHeap) : Nat → Nat → List Value → Prop
  | 0, _, _ => False
  | d + 1, t, as =>
    match E.ty.get t with
    | none => False
    | some i =>
      match i.k with
      | .bool => ∃ b, as = [.bool b]
      | .int k => ∃ n, as = [.int k n] ∧ (Lit.int k n).wf = true
      | .string => ∃ s : ByteArray, as = [.string s] ∧ s.size ≤ maxLen
      | .slice e => as = [.slice none 0 0] ∨ ∃ b n j cs, E.ty.get e = some j ∧ as = [.slice (some ⟨b, 0, none⟩) n n] ∧ b < H.size ∧ H.get b = .cells cs false j.size ∧ cs.length = n * j.size ∧
          ∀ k, k < n → Typed E H d e ((cs.drop (k * j.size)).take j.size)
      | .struct fs => as.length = i.size ∧ ∀ p ∈ fs, ∃ j, E.ty.get p.2.1 = some j ∧ Typed E H d p.2.1 ((as.drop p.1).take j.size)
      | .arr n e => as.length = i.size ∧ ∃ j, E.ty.get e = some j ∧ ∀ k, k < n → Typed E H d e ((as.drop (k * j.size)).take j.size)
      | _ => False

/-- parts that lie one behind the other -/
def tiles (E : Env) : Nat → List (Nat × Nat) → Nat → Bool
  | o, [], z => Nat.beq o z
  | o, (p, t) :: l, z => Nat.beq p o && match E.ty.get t with
    | some j => tiles E (o + j.size) l z
    | none => false
/-- a type that an argument may have -/
def argTy (E : Env) : Nat → Nat → Bool
  | 0, _ => false
  | d + 1, t =>
    match E.ty.get t with
    | none => false
    | some i =>
      match i.k with
      | .bool | .int _ | .string => Nat.beq i.size 1
      | .slice e => Nat.beq i.size 1 && argTy E d e && match E.ty.get e with
        | some j => Nat.blt 0 j.size
        | none => false
      | .struct fs => tiles E 0 (fs.map fun p => (p.1, p.2.1)) i.size && fs.all fun p => argTy E d p.2.1
      | .arr n e => argTy E d e && match E.ty.get e with
        | some j => Nat.beq (n * j.size) i.size
        | none => false
      | _ => false

/-- more blocks, all of them only to be read -/
structure More (ι : Emb) (H : AHeap) (ι' : Emb) (H' : AHeap) : Prop where
  le : ι.le ι'
  size : H.size ≤ H'.size
  old : ∀ b, b < H.size → H'.get b = H.get b
  new : ∀ b l, ι' b = some l → ι b = none → H.size ≤ b ∧ wrt H' b = false
theorem More.refl (ι : Emb) (H : AHeap) : More ι H ι H := ⟨Emb.le.refl ι, Nat.le_refl _, fun _ _ => rfl, fun b l h h' => by rw [h] at h'; cases h'⟩
theorem More.trans {ι ι1 ι2 : Emb} {H H1 H2 : AHeap} (hd : Dm ι1 H1) (h : More ι H ι1 H1) (k : More ι1 H1 ι2 H2) : More ι H ι2 H2 where
  le := h.le.trans k.le
  size := Nat.le_trans h.size k.size
  old b hb := by rw [k.old b (Nat.lt_of_lt_of_le hb h.size), h.old b hb]
  new b l hb hn := by
    cases h1 : ι1 b with
    | none => exact ⟨Nat.le_trans h.size (k.new b l hb h1).1, (k.new b l hb h1).2⟩
    | some l1 =>
      have := h.new b l1 h1 hn
      refine ⟨this.1, ?_⟩
      have e := k.old b (hd b l1 h1)
      simpa only [wrt, e] using this.2

section
variable {E : Env}

theorem Typed.mono {H H' : AHeap} (hs : H.size ≤ H'.size) (ho : ∀ b, b < H.size → H'.get b = H.get b) : ∀ {d t : Nat} {as : List Value}, Typed E H d t as → Typed E H' d t as
  | 0, _, _, h => h
  | d + 1, t, as, h => by
    unfold Typed at h ⊢
    split at h
    · exact h
    · split at h <;> try exact h
      · rcases h with h | ⟨b, n, j, cs, h1, h2, h3, h4, h5, h6⟩
        · exact .inl h
        · exact .inr ⟨b, n, j, cs, h1, h2, by omega, by rw [ho b h3]; exact h4, h5, fun k hk => Typed.mono hs ho (h6 k hk)⟩
      · exact ⟨h.1, fun p hp => by obtain ⟨j, h1, h2⟩ := h.2 p hp; exact ⟨j, h1, Typed.mono hs ho h2⟩⟩
      · obtain ⟨h0, j, h1, h2⟩ := h
        exact ⟨h0, j, h1, fun k hk => Typed.mono hs ho (h2 k hk)⟩

/-- a block that may only be read -/
theorem Rel.addRO {ι : Emb} {H : AHeap} {w : World} (h : Rel E ι H w) (hd : Dm ι H) (hro : ∀ b l, ι b = some l → wrt H b = false)
    {B base sz : Nat} {C : Array Value} {ty : TypeId} {fz : Nat × Nat} {cs : List Value} (hB : w.heap[B]? = some (.cells C ty fz)) (hfit : base + cs.length ≤ C.size) (hc : CellsAt ι C base cs) :
    let ι' := ι.with H.size ⟨B, base, sz, C.size⟩
    let H' := H.alloc (.cells cs false sz)
    Rel E ι' H' w ∧ Dm ι' H' ∧ More ι H ι' H' ∧ (∀ b l, ι' b = some l → wrt H' b = false) := by
  intro ι' H'
  have hfree := hd.free
  have hle : ι.le ι' := with_le hfree _
  have hget : ∀ b, b < H.size → H'.get b = H.get b := fun b hb => AHeap.get_alloc_ne _ _ (by omega)
  have hne : ∀ {b l}, b ≠ H.size → ι' b = some l → ι b = some l := fun {b l} e hb => by
    have := Emb.with_ne ι (b := H.size) (c := b) ⟨B, base, sz, C.size⟩ e
    rw [← this]; exact hb
  have hsm : ∀ {l}, ι' H.size = some l → l = ⟨B, base, sz, C.size⟩ := fun {l} hb => by
    have := Emb.with_same ι H.size ⟨B, base, sz, C.size⟩
    exact (Option.some.inj (this.symm.trans hb)).symm
  have hro' : ∀ b l, ι' b = some l → wrt H' b = false := fun b l hb => by
    by_cases e : b = H.size
    · subst e; simp [wrt, H', AHeap.get_alloc_same]
    · have hb := hne e hb
      simpa only [wrt, hget b (hd b l hb)] using hro b l hb
  refine ⟨⟨?_, ?_, ?_, ?_, ?_⟩, ?_, ⟨hle, by simp [H', AHeap.size_alloc], hget, ?_⟩, hro'⟩
  · intro b l hb
    by_cases e : b = H.size
    · subst e; obtain rfl := hsm hb
      exact (Array.getElem?_eq_some_iff.1 hB).1
    · have hb := hne e hb; exact h.dom b l hb
  · intro b l xs wr z hb hg
    by_cases e : b = H.size
    · subst e; obtain rfl := hsm hb
      rw [AHeap.get_alloc_same] at hg; injection hg with e1 e2 e3; subst e1; subst e2; subst e3
      exact ⟨C, ty, fz, hB, rfl, rfl, hfit, fun i v hv => by obtain ⟨v', h1, h2⟩ := hc i v hv; exact ⟨v', h1, h2.mono hle⟩, (fun e => nomatch e), (fun e => nomatch e)⟩
    · have hb := hne e hb
      rw [hget b (hd b l hb)] at hg
      obtain ⟨C', ty', fz', h1, h2, h3, h4, h5, h6, h7⟩ := h.cells b l xs wr z hb hg
      exact ⟨C', ty', fz', h1, h2, h3, h4, fun i v hv => by obtain ⟨v', k1, k2⟩ := h5 i v hv; exact ⟨v', k1, k2.mono hle⟩, h6, h7⟩
  · intro b l es clk hb hg
    by_cases e : b = H.size
    · subst e; rw [AHeap.get_alloc_same] at hg; cases hg
    · have hb := hne e hb
      rw [hget b (hd b l hb)] at hg
      obtain ⟨es', h1, h2⟩ := h.maps b l es clk hb hg
      exact ⟨es', h1, h2.mono hle⟩
  · intro b b' l l' hb hb' _ hw hl
    rw [hro' b l hb] at hw; cases hw
  · intro g hg
    obtain ⟨l, h1, h2, h3⟩ := h.glob g hg
    exact ⟨l, hle _ _ h1, h2, h3⟩
  · intro b l hb
    by_cases e : b = H.size
    · subst e; simp [H', AHeap.size_alloc]
    · have := hd b l (hne e hb); simp [H', AHeap.size_alloc]; omega
  · intro b l hb hn
    by_cases e : b = H.size
    · subst e; exact ⟨Nat.le_refl _, hro' _ l hb⟩
    · have hb := hne e hb; rw [hn] at hb; cases hb

/-- the state while arguments are laid out -/
structure Laid (E : Env) (W : World) (ι : Emb) (H : AHeap) : Prop where
  rel : Rel E ι H W
  dm : Dm ι H
  ro : ∀ b l, ι b = some l → wrt H b = false

/-- what a reading of cells gives -/
def Reified (E : Env) (W : World) (d t : Nat) (cs : List Value) : Prop := ∀ ι H, Laid E W ι H →
  ∃ ι' H' as, Laid E W ι' H' ∧ More ι H ι' H' ∧ RVs ι' as cs ∧ Typed E H' d t as

theorem RVs.split {ι : Emb} {as cs : List Value} (h : RVs ι as cs) : as.length = cs.length := h.length

/-- parts, one behind the other -/
theorem reifyL {W : World} {d : Nat} {cs : List Value} : ∀ (l : List (Nat × Nat)) (o z : Nat), tiles E o l z = true → z ≤ cs.length →
    (∀ p ∈ l, ∀ j, E.ty.get p.2 = some j → Reified E W d p.2 ((cs.drop p.1).take j.size)) →
    ∀ ι H, Laid E W ι H → ∃ ι' H' as, Laid E W ι' H' ∧ More ι H ι' H' ∧ RVs ι' as ((cs.drop o).take (z - o)) ∧ o ≤ z ∧
      ∀ p ∈ l, ∃ j, E.ty.get p.2 = some j ∧ o ≤ p.1 ∧ Typed E H' d p.2 ((as.drop (p.1 - o)).take j.size)
  | [], o, z, ht, _, _, ι, H, hL => by
    have : o = z := Nat.eq_of_beq_eq_true ht
    subst this
    exact ⟨ι, H, [], hL, More.refl _ _, by simp; exact .nil, Nat.le_refl _, fun p hp => by cases hp⟩
  | (p, t) :: l, o, z, ht, hz, hr, ι, H, hL => by
    simp only [tiles, Bool.and_eq_true] at ht
    obtain ⟨h1, h2⟩ := ht
    have : p = o := Nat.eq_of_beq_eq_true h1
    subst this
    split at h2
    rotate_left
    · cases h2
    rename_i j hj
    obtain ⟨ι1, H1, a1, L1, M1, R1, T1⟩ := hr (p, t) (by simp) j hj ι H hL
    obtain ⟨ι2, H2, a2, L2, M2, R2, hle, T2⟩ := reifyL l (p + j.size) z h2 hz (fun q hq => hr q (by simp [hq])) ι1 H1 L1
    have hlen : a1.length = j.size := by rw [R1.length]; simp; omega
    refine ⟨ι2, H2, a1 ++ a2, L2, M1.trans L1.dm M2, ?_, by omega, ?_⟩
    · have e : (cs.drop p).take (z - p) = (cs.drop p).take j.size ++ (cs.drop (p + j.size)).take (z - (p + j.size)) := by
        have : z - p = j.size + (z - (p + j.size)) := by omega
        rw [this, List.take_add, List.drop_drop]
      rw [e]
      exact (R1.mono M2.le).append R2
    · intro q hq
      simp only [List.mem_cons] at hq
      rcases hq with rfl | hq
      · refine ⟨j, hj, Nat.le_refl _, ?_⟩
        have e : ((a1 ++ a2).drop (p - p)).take j.size = a1 := by simp [← hlen]
        rw [e]
        exact T1.mono M2.size M2.old
      · obtain ⟨j', h3, h4, h5⟩ := T2 q hq
        refine ⟨j', h3, by omega, ?_⟩
        have e : (a1 ++ a2).drop (q.1 - p) = a2.drop (q.1 - (p + j.size)) := by
          rw [List.drop_append]
          have : a1.drop (q.1 - p) = [] := List.drop_eq_nil_of_le (by omega)
          rw [this, List.nil_append]
          congr 1; omega
        rw [e]; exact h5

theorem tiles_range {e : Nat} {j : TI} (hj : E.ty.get e = some j) : ∀ (n k : Nat), tiles E (k * j.size) ((List.range' k n).map fun i => (i * j.size, e)) ((k + n) * j.size) = true
  | 0, k => by simp [tiles]
  | n + 1, k => by
    simp only [List.range'_succ, List.map_cons, tiles, hj, Bool.and_eq_true]
    refine ⟨by simp, ?_⟩
    have := tiles_range hj n (k + 1)
    rw [show k * j.size + j.size = (k + 1) * j.size by rw [Nat.add_mul, Nat.one_mul], show k + (n + 1) = k + 1 + n by omega]
    exact this

theorem cellsOf_eq (hE : TyOk E) {t : Nat} {i : TI} (h : E.ty.get t = some i) : E.P.cellsOf t = i.size := by
  obtain ⟨inf, d, h1, h2, h3, h4, _⟩ := ti_parts hE h
  simp [Program.cellsOf, h1, h4]

theorem trod_array {X : Type} {enc : TypeId × Value → X} {P : Program} {w : World} {base : Nat} {spare : Nat → Bool} {held : Bool} {fuel : Nat} {t : TypeId} {cs : List Value} {x : DataW X × List MemPlace} {m : Nat} {e : TypeId}
    (ht : P.underlying t = some (.array m e)) (h : DataW.trod enc P w base spare held fuel t cs = some x) :
    ∃ (xs : List (DataW X × List MemPlace)) (n : Nat), fuel = n + 1 ∧ cs.length = P.cellsOf t ∧ xs.length = m ∧
      ∀ i, i < m → DataW.trod enc P w base spare held n e ((cs.drop (i * P.cellsOf e)).take (P.cellsOf e)) = xs[i]? := by
  cases fuel with
  | zero => simp [DataW.trod] at h
  | succ n =>
    unfold DataW.trod at h
    rw [ht] at h
    split at h <;> simp_all
    obtain ⟨hl, xs, hp, hd⟩ := h
    exact ⟨xs, by simpa using mapM_some_length hp, fun i hi => mapM_some_get hp i i (by simp [hi])⟩

theorem reify (hE : TyOk E) {W : World} {X : Type} {enc : TypeId × Value → X} : ∀ (n d t : Nat) (cs : List Value) (x : DataW X × List MemPlace), argTy E d t = true → DataW.trod enc E.P W 0 (fun _ => true) true n t cs = some x →
    ((∃ a l c, Value.slice (some a) l c ∈ cs) → ∃ (B : Nat) (C : Array Value) (ty : TypeId) (fz : Nat × Nat), W.heap[B]? = some (.cells C ty fz)) → Reified E W d t cs
  | 0, d, t, cs, x, _, h, _ => by simp [DataW.trod] at h
  | n + 1, 0, t, cs, x, ha, h, _ => by simp [argTy] at ha
  | n + 1, d + 1, t, cs, x, ha, h, hx => by
    intro ι H hL
    unfold argTy at ha
    split at ha
    · cases ha
    rename_i i hi
    obtain ⟨inf, dd, h1, h2, h3, h4, _⟩ := ti_parts hE hi
    split at ha
    · rename_i hk; rw [hk] at h3; obtain rfl := tk_bool h3
      obtain ⟨b, rfl, _⟩ := DataW.trod_bool h2 h
      refine ⟨ι, H, [.bool b], hL, More.refl _ _, .cons _ _ _ _ (.bool b) .nil, ?_⟩
      simp only [Typed, hi, hk]; exact ⟨b, rfl⟩
    · rename_i k hk; rw [hk] at h3; obtain rfl := tk_int h3
      obtain ⟨m, rfl, _, hw⟩ := DataW.trod_int h2 h
      refine ⟨ι, H, [.int k m], hL, More.refl _ _, .cons _ _ _ _ (.int k m) .nil, ?_⟩
      simp only [Typed, hi, hk]; exact ⟨m, rfl, hw⟩
    · rename_i hk; rw [hk] at h3; obtain rfl := tk_string h3
      obtain ⟨s, rfl, _, hs⟩ := DataW.trod_string h2 h
      refine ⟨ι, H, [.string s], hL, More.refl _ _, .cons _ _ _ _ (.string s) .nil, ?_⟩
      simp only [Typed, hi, hk]; exact ⟨s, rfl, hs⟩
    · rename_i e hk; rw [hk] at h3; obtain rfl := tk_slice h3
      simp only [Bool.and_eq_true] at ha
      obtain ⟨⟨_, hae⟩, hj⟩ := ha
      split at hj
      rotate_left
      · cases hj
      rename_i j hje
      have hsz : 0 < j.size := by simpa [Nat.blt_eq] using hj
      have hce := cellsOf_eq hE hje
      rcases DataW.trod_slice h2 h with ⟨rfl, _⟩ | ⟨a, len, cap, elems, rest, m, hm, rfl, _, _, hlc, _, hel, hes, hrs, _⟩
      · refine ⟨ι, H, [.slice none 0 0], hL, More.refl _ _, .cons _ _ _ _ .slice0 .nil, ?_⟩
        simp only [Typed, hi, hk]; exact .inl trivial
      obtain rfl : m = n := by omega
      obtain ⟨hrl, hrs⟩ := hrs rfl
      rw [hce] at hes hrs
      by_cases hc0 : cap = 0
      · subst hc0
        obtain rfl : len = 0 := by omega
        obtain ⟨B, C, ty, fz, hB⟩ := hx ⟨a, 0, 0, by simp⟩
        obtain ⟨r1, r2, r3, r4⟩ := hL.rel.addRO hL.dm hL.ro (base := C.size) (sz := j.size) (cs := []) hB (by simp) (fun i v hv => by simp at hv)
        refine ⟨_, _, [.slice (some ⟨H.size, 0, none⟩) 0 0], ⟨r1, r2, r4⟩, r3, .cons _ _ _ _ (.sliceUZ H.size 0 a _ (Emb.with_same _ _ _)) .nil, ?_⟩
        simp only [Typed, hi, hk]
        exact .inr ⟨H.size, 0, j, [], hje, rfl, by simp [AHeap.size_alloc], AHeap.get_alloc_same _ _, by simp, fun k hk => by omega⟩
      · -- every cell is there
        have hall : ∀ i, i < cap → ∃ y zs, W.cells? 0 (a.add (i * j.size)) j.size = some zs ∧ DataW.trod enc E.P W 0 (fun _ => true) true m e zs = some y := by
          intro i hi
          by_cases hil : i < len
          · have := hes i hil
            rw [List.getElem?_eq_getElem (by omega)] at this
            obtain ⟨zs, k1, k2⟩ := Option.bind_eq_some_iff.1 this
            exact ⟨_, zs, k1, k2⟩
          · have := hrs (i - len) (by omega)
            rw [show len + (i - len) = i by omega, List.getElem?_eq_getElem (by omega)] at this
            obtain ⟨zs, k1, k2⟩ := Option.bind_eq_some_iff.1 this
            exact ⟨_, zs, k1, k2⟩
        obtain ⟨_, z0, hz0, _⟩ := hall 0 (by omega)
        obtain ⟨_, hz0l, hz0c⟩ := World.cells?_some hz0
        have hc00 := hz0c 0 hsz
        rw [List.getElem?_eq_getElem (by omega)] at hc00
        have ea : (a.add (0 * j.size)).add 0 = a := by simp [Addr.add]
        rw [ea] at hc00
        obtain ⟨C, ty, fz, hB, hsp⟩ : ∃ C ty fz, W.heap[a.block]? = some (.cells C ty fz) ∧ a.spot = none := by
          unfold World.cell? at hc00
          split at hc00
          · rename_i C ty fz hB
            cases hs : a.spot with
            | none => exact ⟨C, ty, fz, hB, rfl⟩
            | some s => simp [hs] at hc00
          · cases hc00
        have hcell : ∀ k, W.cell? (a.add k) = C[a.off + k]? := fun k => by
          unfold World.cell? Addr.add
          by_cases hk0 : k = 0
          · subst hk0; simp [hB, hsp]
          · simp [hk0, hB]
        have hadd : ∀ p q, (a.add p).add q = a.add (p + q) := fun p q => by
          unfold Addr.add
          by_cases hp : p = 0
          · subst hp; simp
          · by_cases hq : q = 0
            · subst hq; simp
            · have : p + q ≠ 0 := by omega
              simp [hp, hq, Nat.add_assoc]
        have hzs : ∀ i zs, W.cells? 0 (a.add (i * j.size)) j.size = some zs → zs.length = j.size ∧ ∀ q, q < j.size → C[a.off + (i * j.size + q)]? = zs[q]? := fun i zs hz => by
          obtain ⟨_, k2, k3⟩ := World.cells?_some hz
          refine ⟨k2, fun q hq => ?_⟩
          rw [← k3 q hq, hadd, hcell]
        have hfit : a.off + cap * j.size ≤ C.size := by
          obtain ⟨_, zs, k1, _⟩ := hall (cap - 1) (by omega)
          obtain ⟨k2, k3⟩ := hzs _ _ k1
          have := k3 (j.size - 1) (by omega)
          rw [List.getElem?_eq_getElem (by omega)] at this
          have := (Array.getElem?_eq_some_iff.1 this).1
          have e : cap * j.size = (cap - 1) * j.size + j.size := by rw [← Nat.succ_mul]; congr 1; omega
          omega
        let all : List Value := (C.toList.drop a.off).take (len * j.size)
        have hlenall : all.length = len * j.size := by
          have : len * j.size ≤ cap * j.size := Nat.mul_le_mul_right _ hlc
          simp [all]; omega
        have hallget : ∀ k, k < len * j.size → all[k]? = C[a.off + k]? := fun k hk => by
          simp [all, List.getElem?_take, hk, List.getElem?_drop]
        have hpiece : ∀ i zs, i < len → W.cells? 0 (a.add (i * j.size)) j.size = some zs → (all.drop (i * j.size)).take j.size = zs := fun i zs hil hz => by
          obtain ⟨k2, k3⟩ := hzs _ _ hz
          have hb : i * j.size + j.size ≤ len * j.size := by rw [← Nat.succ_mul]; exact Nat.mul_le_mul_right _ hil
          apply List.ext_getElem?
          intro q
          by_cases hq : q < j.size
          · rw [List.getElem?_take, if_pos hq, List.getElem?_drop, hallget _ (by omega), k3 q hq]
          · rw [List.getElem?_eq_none (by simp; omega), List.getElem?_eq_none (by omega)]
        obtain ⟨ι1, H1, as1, L1, M1, R1, _, T1⟩ := reifyL (W := W) (d := d) (cs := all) ((List.range' 0 len).map fun i => (i * j.size, e)) 0 (len * j.size)
          (by have := tiles_range hje len 0; simpa using this) (by omega) (fun p hp j' hj' => by
            obtain ⟨i, hi1, rfl⟩ := List.mem_map.1 hp
            have hil : i < len := by have := List.mem_range'_1.1 hi1; omega
            rw [hje] at hj'; injection hj' with hj'; subst hj'
            obtain ⟨y, zs, k1, k2⟩ := hall i (by omega)
            simp only
            rw [hpiece i zs hil k1]
            exact reify hE m d e zs y hae k2 (fun _ => ⟨_, _, _, _, hB⟩)) ι H hL
        have R1' : RVs ι1 as1 all := by
          have e : (all.drop 0).take (len * j.size - 0) = all := by simp [← hlenall]
          rw [e] at R1; exact R1
        have hal : as1.length = len * j.size := by rw [R1'.length, hlenall]
        have hle' : len * j.size ≤ cap * j.size := Nat.mul_le_mul_right _ hlc
        obtain ⟨r1, r2, r3, r4⟩ := L1.rel.addRO L1.dm L1.ro (base := a.off) (sz := j.size) (cs := as1) hB (by omega) (fun k v hv => by
          obtain ⟨v', g1, g2⟩ := R1'.get k v hv
          have hkl : k < len * j.size := by rw [← hal]; exact (List.getElem?_eq_some_iff.1 hv).1
          exact ⟨v', by rw [← hallget k hkl]; exact g1, g2⟩)
        refine ⟨_, _, [.slice (some ⟨H1.size, 0, none⟩) len len], ⟨r1, r2, r4⟩, M1.trans L1.dm r3, .cons _ _ _ _ ?_ .nil, ?_⟩
        · have := RV.sliceU (ι := ι1.with H1.size ⟨a.block, a.off, j.size, C.size⟩) H1.size 0 len len cap ⟨a.block, a.off, j.size, C.size⟩ (Emb.with_same _ _ _) (Nat.le_refl _) hlc (.inr (by simpa using hfit))
          have e : (⟨a.block, a.off + 0, none⟩ : Addr) = a := by cases a; simp at hsp; subst hsp; rfl
          rw [e] at this; exact this
        · simp only [Typed, hi, hk]
          refine .inr ⟨H1.size, len, j, as1, hje, rfl, by simp [AHeap.size_alloc], AHeap.get_alloc_same _ _, hal, fun k hkl => ?_⟩
          obtain ⟨j', hj', _, hT⟩ := T1 (k * j.size, e) (List.mem_map.2 ⟨k, List.mem_range'_1.2 ⟨by omega, by omega⟩, rfl⟩)
          rw [hje] at hj'; injection hj' with hj'; subst hj'
          exact Typed.mono r3.size r3.old (by simpa using hT)
    · rename_i fs hk; rw [hk] at h3; obtain ⟨F, rfl, rfl⟩ := tk_struct h3
      simp only [Bool.and_eq_true] at ha
      obtain ⟨htl, hall⟩ := ha
      obtain ⟨xs, m, hm, _, hlen, hxl, hfs⟩ := DataW.trod_struct h2 h
      obtain rfl : m = n := by omega
      rw [cellsOf_eq hE hi] at hlen
      obtain ⟨ι1, H1, as1, L1, M1, R1, _, T1⟩ := reifyL (W := W) (d := d) (cs := cs) _ 0 i.size htl (by omega) (fun p hp j hj => by
        simp only [List.map_map, List.mem_map] at hp
        obtain ⟨f, hf, rfl⟩ := hp
        obtain ⟨k, hk1, hk2⟩ := List.mem_iff_getElem.1 hf
        have h5 := hfs k f (by rw [← Array.getElem?_toList, List.getElem?_eq_getElem hk1, hk2])
        have hj' : E.ty.get f.type = some j := hj
        rw [cellsOf_eq hE hj', List.getElem?_eq_getElem (by rw [hxl]; simpa using hk1)] at h5
        refine reify hE m d f.type _ _ ?_ h5 fun ⟨a, l, c, hc⟩ => hx ⟨a, l, c, List.mem_of_mem_drop (List.mem_of_mem_take hc)⟩
        rw [List.all_eq_true] at hall
        exact hall (f.offset, f.type, f.name == "_") (List.mem_map.2 ⟨f, hf, rfl⟩)) ι H hL
      have e : (cs.drop 0).take (i.size - 0) = cs := by simp [← hlen]
      rw [e] at R1
      refine ⟨ι1, H1, as1, L1, M1, R1, ?_⟩
      simp only [Typed, hi, hk]
      refine ⟨by rw [R1.length, hlen], fun p hp => ?_⟩
      obtain ⟨j, g1, _, g3⟩ := T1 (p.1, p.2.1) (List.mem_map.2 ⟨p, hp, rfl⟩)
      exact ⟨j, g1, by simpa using g3⟩
    · rename_i m e hk; rw [hk] at h3; obtain rfl := tk_arr h3
      simp only [Bool.and_eq_true] at ha
      obtain ⟨hae, hj⟩ := ha
      split at hj
      rotate_left
      · cases hj
      rename_i j hje
      have hmj : m * j.size = i.size := Nat.eq_of_beq_eq_true hj
      obtain ⟨xs, n', hn', hlen, hxl, hxs⟩ := trod_array h2 h
      obtain rfl : n' = n := by omega
      rw [cellsOf_eq hE hi] at hlen
      rw [cellsOf_eq hE hje] at hxs
      obtain ⟨ι1, H1, as1, L1, M1, R1, _, T1⟩ := reifyL (W := W) (d := d) (cs := cs) ((List.range' 0 m).map fun i => (i * j.size, e)) 0 (m * j.size)
        (by have := tiles_range hje m 0; simpa using this) (by omega) (fun p hp j' hj' => by
          obtain ⟨k, hk1, rfl⟩ := List.mem_map.1 hp
          have hkm : k < m := by have := List.mem_range'_1.1 hk1; omega
          rw [hje] at hj'; injection hj' with hj'; subst hj'
          have h5 := hxs k hkm
          rw [List.getElem?_eq_getElem (by omega)] at h5
          exact reify hE n' d e _ _ hae h5 fun ⟨a, l, c, hc⟩ => hx ⟨a, l, c, List.mem_of_mem_drop (List.mem_of_mem_take hc)⟩) ι H hL
      have e' : (cs.drop 0).take (m * j.size - 0) = cs := by simp [hmj, ← hlen]
      rw [e'] at R1
      refine ⟨ι1, H1, as1, L1, M1, R1, ?_⟩
      simp only [Typed, hi, hk]
      refine ⟨by rw [R1.length, hlen], j, hje, fun k hkm => ?_⟩
      obtain ⟨j', g1, _, g3⟩ := T1 (k * j.size, e) (List.mem_map.2 ⟨k, List.mem_range'_1.2 ⟨by omega, by omega⟩, rfl⟩)
      rw [hje] at g1; injection g1 with g1; subst g1
      simpa using g3
    · cases ha

end
end AbsYtlmcjfnignbdoaa
