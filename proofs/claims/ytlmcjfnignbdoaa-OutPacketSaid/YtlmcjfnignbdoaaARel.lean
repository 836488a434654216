/-
  How the abstract machine's values and heap lie in a world.
-/
import Derived.Test.YtlmcjfnignbdoaaAMach
import Derived.RowKit3
import Derived.Laws.IdiomCopy
namespace AbsYtlmcjfnignbdoaa
set_option linter.unusedVariables false
set_option linter.unusedSimpArgs false
set_option linter.unusedSectionVars false
open Go

/-- where an abstract block lies: the world's block, from which cell on, how many cells an element has, how many cells the world's block has -/
structure Loc where
  blk : Nat
  base : Nat
  sz : Nat
  tot : Nat

abbrev Emb := Nat → Option Loc

mutual
inductive RV (ι : Emb) : Value → Value → Prop
  | bool (b : Bool) : RV ι (.bool b) (.bool b)
  | int (k : IntKind) (n : Int) : RV ι (.int k n) (.int k n)
  | string (s : ByteArray) : RV ι (.string s) (.string s)
  | ptr0 : RV ι (.pointer none) (.pointer none)
  | ptr (b o : Nat) (l : Loc) (h : ι b = some l) : RV ι (.pointer (some ⟨b, o, none⟩)) (.pointer (some ⟨l.blk, l.base + o, none⟩))
  | slice0 : RV ι (.slice none 0 0) (.slice none 0 0)
  | sliceU (b o n c c' : Nat) (l : Loc) (h : ι b = some l) (hn : n ≤ c) (hc : c ≤ c') (ht : l.sz = 0 ∨ l.base + o + c' * l.sz ≤ l.tot) :
      RV ι (.slice (some ⟨b, o, none⟩) n c) (.slice (some ⟨l.blk, l.base + o, none⟩) n c')
  | sliceUZ (b o : Nat) (a' : Addr) (l : Loc) (h : ι b = some l) : RV ι (.slice (some ⟨b, o, none⟩) 0 0) (.slice (some a') 0 0)
  | sliceX (b o n c : Nat) (l : Loc) (h : ι b = some l) (hn : n ≤ c) (ht : l.sz = 0 ∨ l.base + o + c * l.sz ≤ l.tot) :
      RV ι (.slice (some ⟨b, o, some 1⟩) n c) (.slice (some ⟨l.blk, l.base + o, none⟩) n c)
  | sliceXZ (b o : Nat) (a' : Addr) (l : Loc) (h : ι b = some l) : RV ι (.slice (some ⟨b, o, some 1⟩) 0 0) (.slice (some a') 0 0)
  | map0 : RV ι (.map none) (.map none)
  | map (r : Nat) (l : Loc) (h : ι r = some l) : RV ι (.map (some r)) (.map (some l.blk))
  | nilFunc : RV ι .nilFunc .nilFunc
  | func (fn : Fn) (xs ys xs' ys' : List Value) (h : RVs ι xs xs') (h' : RVs ι ys ys') : RV ι (.func fn ⟨xs⟩ ⟨ys⟩) (.func fn ⟨xs'⟩ ⟨ys'⟩)
  | nilIface : RV ι .nilIface .nilIface
  | iface (t : TypeId) (v v' : Value) (h : RV ι v v') : RV ι (.iface t v) (.iface t v')
  | agg (xs xs' : List Value) (h : RVs ι xs xs') : RV ι (.agg ⟨xs⟩) (.agg ⟨xs'⟩)
  | tuple (xs xs' : List Value) (h : RVs ι xs xs') : RV ι (.tuple ⟨xs⟩) (.tuple ⟨xs'⟩)
inductive RVs (ι : Emb) : List Value → List Value → Prop
  | nil : RVs ι [] []
  | cons (v v' : Value) (vs vs' : List Value) (h : RV ι v v') (hs : RVs ι vs vs') : RVs ι (v :: vs) (v' :: vs')
end

def Emb.le (ι ι' : Emb) : Prop := ∀ b l, ι b = some l → ι' b = some l
theorem Emb.le.refl (ι : Emb) : ι.le ι := fun _ _ h => h
theorem Emb.le.trans {ι ι' ι'' : Emb} (h : ι.le ι') (h' : ι'.le ι'') : ι.le ι'' := fun b l e => h' b l (h b l e)

mutual
theorem RV.mono {ι ι' : Emb} (hle : ι.le ι') {v v' : Value} (h : RV ι v v') : RV ι' v v' := by
  cases h with
  | bool b => exact .bool b
  | int k n => exact .int k n
  | string s => exact .string s
  | ptr0 => exact .ptr0
  | ptr b o l h => exact .ptr b o l (hle _ _ h)
  | slice0 => exact .slice0
  | sliceU b o n c c' l h hn hc ht => exact .sliceU b o n c c' l (hle _ _ h) hn hc ht
  | sliceUZ b o a l h => exact .sliceUZ b o a l (hle _ _ h)
  | sliceX b o n c l h hn ht => exact .sliceX b o n c l (hle _ _ h) hn ht
  | sliceXZ b o a l h => exact .sliceXZ b o a l (hle _ _ h)
  | map0 => exact .map0
  | map r l h => exact .map r l (hle _ _ h)
  | nilFunc => exact .nilFunc
  | func fn xs ys xs' ys' h h' => exact .func fn xs ys xs' ys' (RVs.mono hle h) (RVs.mono hle h')
  | nilIface => exact .nilIface
  | iface t v v' h => exact .iface t v v' (RV.mono hle h)
  | agg xs xs' h => exact .agg xs xs' (RVs.mono hle h)
  | tuple xs xs' h => exact .tuple xs xs' (RVs.mono hle h)
theorem RVs.mono {ι ι' : Emb} (hle : ι.le ι') {vs vs' : List Value} (h : RVs ι vs vs') : RVs ι' vs vs' := by
  cases h with
  | nil => exact .nil
  | cons v v' vs vs' h hs => exact .cons v v' vs vs' (RV.mono hle h) (RVs.mono hle hs)
end

theorem RVs.length {ι : Emb} {vs vs' : List Value} (h : RVs ι vs vs') : vs.length = vs'.length := by
  induction vs generalizing vs' with
  | nil => cases h; rfl
  | cons v vs ih => cases h with | cons _ _ _ _ _ hs => simp [ih hs]
theorem RVs.get {ι : Emb} {vs vs' : List Value} (h : RVs ι vs vs') (i : Nat) (v : Value) (hv : vs[i]? = some v) : ∃ v', vs'[i]? = some v' ∧ RV ι v v' := by
  induction vs generalizing vs' i with
  | nil => simp at hv
  | cons u vs ih =>
    cases h with
    | cons _ v' _ vs' h hs =>
      cases i with
      | zero => simp at hv; subst hv; exact ⟨v', rfl, h⟩
      | succ i => simpa using ih hs i (by simpa using hv)
theorem RVs.get_none {ι : Emb} {vs vs' : List Value} (h : RVs ι vs vs') (i : Nat) (hv : vs[i]? = none) : vs'[i]? = none := by
  have := h.length; simp only [List.getElem?_eq_none_iff] at *; omega
theorem RVs.of_get {ι : Emb} {vs vs' : List Value} (hl : vs.length = vs'.length) (h : ∀ (i : Nat) (v v' : Value), vs[i]? = some v → vs'[i]? = some v' → RV ι v v') : RVs ι vs vs' := by
  induction vs generalizing vs' with
  | nil => cases vs' with | nil => exact .nil | cons _ _ => simp at hl
  | cons v vs ih =>
    cases vs' with
    | nil => simp at hl
    | cons v' vs' => exact .cons _ _ _ _ (h 0 v v' rfl rfl) (ih (by simpa using hl) fun i u u' hu hu' => h (i + 1) u u' (by simpa using hu) (by simpa using hu'))
theorem RVs.append {ι : Emb} {a a' b b' : List Value} (h : RVs ι a a') (h' : RVs ι b b') : RVs ι (a ++ b) (a' ++ b') := by
  induction a generalizing a' with
  | nil => cases h; exact h'
  | cons v vs ih => cases h with | cons _ _ _ _ h hs => exact .cons _ _ _ _ h (ih hs)
theorem RVs.take {ι : Emb} {a a' : List Value} (h : RVs ι a a') (n : Nat) : RVs ι (a.take n) (a'.take n) := by
  induction a generalizing a' n with
  | nil => cases h; simp; exact .nil
  | cons v vs ih => cases h with | cons _ _ _ _ h hs => cases n with
    | zero => simp; exact .nil
    | succ n => simp; exact .cons _ _ _ _ h (ih hs n)
theorem RVs.drop {ι : Emb} {a a' : List Value} (h : RVs ι a a') (n : Nat) : RVs ι (a.drop n) (a'.drop n) := by
  induction a generalizing a' n with
  | nil => cases h; simp; exact .nil
  | cons v vs ih => cases h with | cons _ _ _ _ h hs => cases n with
    | zero => simp; exact .cons _ _ _ _ h hs
    | succ n => simp; exact ih hs n
theorem RVs.set {ι : Emb} {a a' : List Value} (h : RVs ι a a') (n : Nat) {v v' : Value} (hv : RV ι v v') : RVs ι (a.set n v) (a'.set n v') := by
  induction a generalizing a' n with
  | nil => cases h; simp; exact .nil
  | cons u vs ih => cases h with | cons _ _ _ _ h hs => cases n with
    | zero => simp; exact .cons _ _ _ _ hv hs
    | succ n => simp; exact .cons _ _ _ _ h (ih hs n)
theorem RV.undef {ι : Emb} : RV ι undef undef := .tuple [] [] .nil
theorem RVs.replicate {ι : Emb} (n : Nat) {v v' : Value} (hv : RV ι v v') : RVs ι (List.replicate n v) (List.replicate n v') := by
  induction n with
  | zero => simp; exact .nil
  | succ n ih => simp [List.replicate_succ]; exact .cons _ _ _ _ hv ih
theorem RVs.getD {ι : Emb} {vs vs' : List Value} (h : RVs ι vs vs') (i : Nat) {d d' : Value} (hd : RV ι d d') : RV ι (vs.getD i d) (vs'.getD i d') := by
  cases hv : vs[i]? with
  | none => simp [List.getD, hv, h.get_none i hv]; exact hd
  | some v => obtain ⟨v', h1, h2⟩ := h.get i v hv; simp [List.getD, hv, h1]; exact h2
theorem RVs.map_val {ι : Emb} {α : Type} (l : List α) (f g : α → Value) (h : ∀ a ∈ l, RV ι (f a) (g a)) : RVs ι (l.map f) (l.map g) := by
  induction l with
  | nil => exact .nil
  | cons a l ih => exact .cons _ _ _ _ (h a (by simp)) (ih fun b hb => h b (by simp [hb]))

theorem RV.cells {ι : Emb} {v v' : Value} (h : RV ι v v') : RVs ι (vcells v) v'.cells.toList := by
  cases h <;> first | (simp only [vcells, Value.cells]; exact .cons _ _ _ _ (by first | assumption | constructor <;> assumption) .nil) | assumption
theorem oneCell_iff (v : Value) : oneCell v = true → v.oneCell' = true := by cases v <;> simp [oneCell, Value.oneCell']
theorem RV.oneCell {ι : Emb} {v v' : Value} (h : RV ι v v') (h1 : AbsYtlmcjfnignbdoaa.oneCell v = true) : v'.oneCell' = true := by
  cases h <;> first | rfl | simp [AbsYtlmcjfnignbdoaa.oneCell] at h1

/-- a value without any address -/
def closedV : Value → Bool
  | .bool _ | .int _ _ | .string _ | .pointer none | .map none | .nilFunc | .nilIface => true
  | .slice none 0 0 => true
  | _ => false
theorem RV.closed {ι : Emb} {v : Value} (h : closedV v = true) : RV ι v v := by
  unfold closedV at h
  split at h <;> first | constructor | simp at h
theorem ZV.closed (z : ZV) : closedV z.val = true := by cases z <;> rfl
theorem RVs.zeros {ι : Emb} (zs : List ZV) : RVs ι (zs.map ZV.val) (zs.map ZV.val) := RVs.map_val _ _ _ fun z _ => RV.closed z.closed

/-! ### the heap in a world -/
def wrt (H : AHeap) (b : Nat) : Bool :=
  match H.get b with
  | .cells _ w _ => w
  | .map .. => true
  | .dead => false
def live (H : AHeap) (b : Nat) : Bool :=
  match H.get b with
  | .dead => false
  | _ => true

inductive REs (ι : Emb) : List MapEntry → List MapEntry → Prop
  | nil : REs ι [] []
  | cons (e e' : MapEntry) (es es' : List MapEntry) (hk : e'.key = e.key) (hb : e'.born = e.born) (hv : RV ι e.val e'.val) (hs : REs ι es es') : REs ι (e :: es) (e' :: es')
theorem REs.mono {ι ι' : Emb} (hle : ι.le ι') {es es' : List MapEntry} (h : REs ι es es') : REs ι' es es' := by
  induction h with
  | nil => exact .nil
  | cons e e' es es' hk hb hv _ ih => exact .cons e e' es es' hk hb (hv.mono hle) ih

/-- cells of the world's block: from base on they are these values' -/
def CellsAt (ι : Emb) (C : Array Value) (base : Nat) (cs : List Value) : Prop := ∀ (i : Nat) (v : Value), cs[i]? = some v → ∃ v', C[base + i]? = some v' ∧ RV ι v v'
def Unfrozen (fz : Nat × Nat) (n : Nat) : Prop := ∀ off, off < n → ¬ (fz.1 ≤ off ∧ off < fz.2)

structure Rel (E : Env) (ι : Emb) (H : AHeap) (w : World) : Prop where
  dom : ∀ b l, ι b = some l → l.blk < w.heap.size
  cells : ∀ b l cs wr sz, ι b = some l → H.get b = .cells cs wr sz → ∃ C ty fz, w.heap[l.blk]? = some (.cells C ty fz) ∧ C.size = l.tot ∧ l.sz = sz ∧ l.base + cs.length ≤ l.tot ∧
    CellsAt ι C l.base cs ∧ (wr = true → Unfrozen fz l.tot) ∧ (wr = true → sz = 0 → fz.2 ≤ fz.1)
  maps : ∀ b l es clk, ι b = some l → H.get b = .map es clk → ∃ es', w.heap[l.blk]? = some (.map es' clk) ∧ REs ι es es'.toList
  inj : ∀ b b' l l', ι b = some l → ι b' = some l' → b ≠ b' → wrt H b = true → live H b' = true → l.blk ≠ l'.blk
  glob : ∀ g, g < E.ng → ∃ l, ι g = some l ∧ l.blk = g ∧ l.base = 0

/-- a heap that holds less -/
def faint (o p : AObj) : Prop := o = p ∨ o = .dead ∨ ∃ cs wr sz, p = .cells cs wr sz ∧ o = .cells [] false sz
theorem Rel.faint {E : Env} {ι : Emb} {w : World} {K H : AHeap} (h : Rel E ι K w) (he : ∀ b l, ι b = some l → AbsYtlmcjfnignbdoaa.faint (H.get b) (K.get b)) : Rel E ι H w where
  dom := h.dom
  cells b l cs wr sz hb hg := by
    rcases he b l hb with h1 | h1 | ⟨cs', wr', sz', h1, h2⟩
    · exact h.cells b l cs wr sz hb (by rw [← h1]; exact hg)
    · rw [h1] at hg; cases hg
    · rw [h2] at hg; injection hg with e1 e2 e3; subst e1; subst e2; subst e3
      obtain ⟨C, ty, fz, k1, k2, k3, k4, k5, k6, k7⟩ := h.cells b l cs' wr' sz' hb h1
      exact ⟨C, ty, fz, k1, k2, k3, by simp; omega, fun i v hv => by simp at hv, (fun e => nomatch e), (fun e => nomatch e)⟩
  maps b l es clk hb hg := by
    rcases he b l hb with h1 | h1 | ⟨cs', wr', sz', h1, h2⟩
    · exact h.maps b l es clk hb (by rw [← h1]; exact hg)
    · rw [h1] at hg; cases hg
    · rw [h2] at hg; cases hg
  inj b b' l l' hb hb' hne hw hl := by
    refine h.inj b b' l l' hb hb' hne ?_ ?_
    · rcases he b l hb with h1 | h1 | ⟨cs', wr', sz', h1, h2⟩
      · simpa only [wrt, h1] using hw
      · simp [wrt, h1] at hw
      · simp [wrt, h2] at hw
    · rcases he b' l' hb' with h1 | h1 | ⟨cs', wr', sz', h1, h2⟩
      · simpa only [live, h1] using hl
      · simp [live, h1] at hl
      · simp [live, h1]
  glob := h.glob

theorem AHeap.empty_get (b : Nat) : AHeap.empty.get b = .dead := by simp [AHeap.empty, AHeap.get, Tr.get, Tr.getF_lf]
theorem Rel.empty {E : Env} {ι : Emb} {w : World} {K : AHeap} (h : Rel E ι K w) : Rel E ι .empty w := h.faint fun b _ _ => .inr (.inl (AHeap.empty_get b))

/-- every block that lies somewhere has a number below the next one -/
def Dm (ι : Emb) (H : AHeap) : Prop := ∀ b l, ι b = some l → b < H.size
theorem Dm.free {ι : Emb} {H : AHeap} (h : Dm ι H) : ι H.size = none := by
  cases hi : ι H.size with
  | none => rfl
  | some l => exact absurd (h _ _ hi) (by omega)

/-- from one state to another -/
structure Step (ι : Emb) (H : AHeap) (w : World) (ι' : Emb) (H' : AHeap) (w' : World) : Prop where
  ext : ι.le ι'
  new : ∀ b l, ι' b = some l → ι b = none → H.size ≤ b ∧ b < H'.size
  hsz : H.size ≤ H'.size
  own : ∀ b l, ι' b = some l → wrt H' b = true → w.heap.size ≤ l.blk ∨ ∃ b0 l0, ι b0 = some l0 ∧ l0.blk = l.blk ∧ wrt H b0 = true
  place : ∀ b l, ι' b = some l → ι b = none → w.heap.size ≤ l.blk ∨ ∃ b0 l0, ι b0 = some l0 ∧ l0.blk = l.blk ∧ wrt H b0 = true
  liv : ∀ b, b < H.size → live H' b = true → live H b = true
  os : w'.os = w.os
  tape : w'.tape = w.tape
  output : w'.output = w.output
  size : w.heap.size ≤ w'.heap.size
  frame : ∀ B, B < w.heap.size → (∀ b l, ι b = some l → l.blk = B → wrt H b = false) → w'.heap[B]? = w.heap[B]?
  away : ∀ b, b < H.size → ι b = none → H'.get b = H.get b

theorem Dm.step {ι ι' : Emb} {H H' : AHeap} {w w' : World} (h : Dm ι H) (k : Step ι H w ι' H' w') : Dm ι' H' := fun b l hb => by
  cases hi : ι b with
  | none => exact (k.new b l hb hi).2
  | some l0 => exact Nat.lt_of_lt_of_le (h b l0 hi) k.hsz

theorem Step.refl (ι : Emb) (H : AHeap) (w : World) : Step ι H w ι H w :=
  ⟨Emb.le.refl ι, fun b l h h' => by simp [h] at h', Nat.le_refl _, fun b l h hw => .inr ⟨b, l, h, rfl, hw⟩, fun b l h h' => by simp [h] at h', fun _ _ h => h, rfl, rfl, rfl, Nat.le_refl _, fun _ _ _ => rfl, fun _ _ _ => rfl⟩

theorem Step.trans {ι ι1 ι2 : Emb} {H H1 H2 : AHeap} {w w1 w2 : World}
    (h : Step ι H w ι1 H1 w1) (k : Step ι1 H1 w1 ι2 H2 w2) : Step ι H w ι2 H2 w2 where
  ext := h.ext.trans k.ext
  new b l hb hn := by
    cases h1 : ι1 b with
    | none => exact ⟨Nat.le_trans h.hsz (k.new b l hb h1).1, (k.new b l hb h1).2⟩
    | some l1 => exact ⟨(h.new b l1 h1 hn).1, Nat.lt_of_lt_of_le (h.new b l1 h1 hn).2 k.hsz⟩
  hsz := Nat.le_trans h.hsz k.hsz
  own b l hb hw := by
    rcases k.own b l hb hw with h1 | ⟨b0, l0, h1, h2, h3⟩
    · exact .inl (Nat.le_trans h.size h1)
    · rcases h.own b0 l0 h1 h3 with h4 | ⟨b1, l1, h4, h5, h6⟩
      · exact .inl (h2 ▸ h4)
      · exact .inr ⟨b1, l1, h4, h5.trans h2, h6⟩
  place b l hb hn := by
    cases h1 : ι1 b with
    | none =>
      rcases k.place b l hb h1 with h2 | ⟨b0, l0, h2, h3, h4⟩
      · exact .inl (Nat.le_trans h.size h2)
      · rcases h.own b0 l0 h2 h4 with h5 | ⟨b1, l1, h5, h6, h7⟩
        · exact .inl (h3 ▸ h5)
        · exact .inr ⟨b1, l1, h5, h6.trans h3, h7⟩
    | some l1 =>
      have := k.ext _ _ h1
      rw [hb] at this; injection this with this; subst this
      exact h.place b l h1 hn
  liv b hb hl := h.liv b hb (k.liv b (Nat.lt_of_lt_of_le hb h.hsz) hl)
  os := k.os.trans h.os
  tape := k.tape.trans h.tape
  output := k.output.trans h.output
  size := Nat.le_trans h.size k.size
  frame B hB hno := by
    rw [k.frame B (Nat.lt_of_lt_of_le hB h.size) ?_, h.frame B hB hno]
    intro b l hb hbl
    cases hw : wrt H1 b with
    | false => rfl
    | true =>
      rcases h.own b l hb hw with h1 | ⟨b0, l0, h1, h2, h3⟩
      · omega
      · rw [hno b0 l0 h1 (h2.trans hbl)] at h3; simp at h3
  away b hb hn := by
    cases h1 : ι1 b with
    | none => rw [k.away b (Nat.lt_of_lt_of_le hb h.hsz) h1, h.away b hb hn]
    | some l => have := (h.new b l h1 hn).1; omega

end AbsYtlmcjfnignbdoaa
