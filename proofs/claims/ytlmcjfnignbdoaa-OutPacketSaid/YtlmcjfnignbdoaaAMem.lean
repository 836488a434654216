/-
  Blocks that are made, written and given up: the relation behind each.
-/
import Derived.Test.YtlmcjfnignbdoaaARel
namespace AbsYtlmcjfnignbdoaa
set_option linter.unusedVariables false
set_option linter.unusedSimpArgs false
set_option linter.unusedSectionVars false
open Go

def putBlk (w : World) (B : Nat) (o : Obj) : World := { w with heap := w.heap.setIfInBounds B o }
theorem putBlk_get (w : World) (B : Nat) (o : Obj) (hB : B < w.heap.size) : (putBlk w B o).heap[B]? = some o := by simp [putBlk, hB]
theorem putBlk_ne (w : World) (B : Nat) (o : Obj) {k : Nat} (h : B ≠ k) : (putBlk w B o).heap[k]? = w.heap[k]? := by simp [putBlk, Array.getElem?_setIfInBounds_ne h]
theorem putBlk_size (w : World) (B : Nat) (o : Obj) : (putBlk w B o).heap.size = w.heap.size := by simp [putBlk]
theorem putBlk_putBlk (w : World) (B : Nat) (o o' : Obj) : putBlk (putBlk w B o) B o' = putBlk w B o' := by simp [putBlk, Array.setIfInBounds_setIfInBounds]
theorem putBlk_self (w : World) (B : Nat) (o : Obj) (h : w.heap[B]? = some o) : putBlk w B o = w := by
  unfold putBlk
  have : w.heap.setIfInBounds B o = w.heap := by
    apply Array.ext_getElem?
    intro i
    by_cases hi : B = i
    · subst hi
      have hlt : B < w.heap.size := by
        rcases Nat.lt_or_ge B w.heap.size with h1 | h1
        · exact h1
        · simp [Array.getElem?_eq_none h1] at h
      rw [h, Array.getElem?_setIfInBounds_self_of_lt hlt]
    · rw [Array.getElem?_setIfInBounds_ne hi]
  rw [this]

def asplice (C : Array Value) (o : Nat) (xs : List Value) : Array Value := (C.toList.take o ++ xs ++ C.toList.drop (o + xs.length)).toArray
theorem asplice_size (C : Array Value) (o : Nat) (xs : List Value) (h : o + xs.length ≤ C.size) : (asplice C o xs).size = C.size := by
  simp [asplice]; omega
theorem asplice_in (C : Array Value) (o : Nat) (xs : List Value) (h : o + xs.length ≤ C.size) (i : Nat) (hi : i < xs.length) : (asplice C o xs)[o + i]? = xs[i]? := by
  simp only [asplice, List.getElem?_toArray]
  rw [List.append_assoc, List.getElem?_append_right (by simp; omega), List.getElem?_append_left (by simp; omega)]
  congr 1
  simp; omega
theorem asplice_out (C : Array Value) (o : Nat) (xs : List Value) (h : o + xs.length ≤ C.size) (i : Nat) (hi : i < o ∨ o + xs.length ≤ i) : (asplice C o xs)[i]? = C[i]? := by
  simp only [asplice, List.getElem?_toArray]
  rcases hi with hi | hi
  · rw [List.append_assoc, List.getElem?_append_left (by simp; omega), List.getElem?_take_of_lt hi, Array.getElem?_toList]
  · rw [List.getElem?_append_right (by simp; omega), List.getElem?_drop, Array.getElem?_toList]
    congr 1
    simp; omega
theorem asplice_nil (C : Array Value) (o : Nat) : asplice C o [] = C := by simp [asplice]
theorem asplice_cons (C : Array Value) (o : Nat) (v : Value) (xs : List Value) (h : o + (xs.length + 1) ≤ C.size) : asplice (C.setIfInBounds o v) (o + 1) xs = asplice C o (v :: xs) := by
  apply Array.ext_getElem?
  intro i
  have hs : o + 1 + xs.length ≤ (C.setIfInBounds o v).size := by simp; omega
  have hl : o + (v :: xs).length ≤ C.size := by simpa using h
  by_cases h1 : i < o
  · rw [asplice_out _ _ _ hs i (by omega), asplice_out _ _ _ hl i (by omega), Array.getElem?_setIfInBounds_ne (by omega)]
  · by_cases h2 : i = o
    · subst h2
      rw [asplice_out _ _ _ hs i (by omega)]
      have := asplice_in C i (v :: xs) hl 0 (by simp)
      rw [Nat.add_zero] at this
      rw [this, Array.getElem?_setIfInBounds_self_of_lt (by omega)]
      rfl
    · by_cases h3 : i < o + (xs.length + 1)
      · have e1 := asplice_in (C.setIfInBounds o v) (o + 1) xs hs (i - (o + 1)) (by omega)
        have e2 := asplice_in C o (v :: xs) hl (i - o) (by simp; omega)
        rw [show o + 1 + (i - (o + 1)) = i by omega] at e1
        rw [show o + (i - o) = i by omega] at e2
        rw [e1, e2, show i - o = (i - (o + 1)) + 1 by omega, List.getElem?_cons_succ]
      · rw [asplice_out _ _ _ hs i (by omega), asplice_out _ _ _ hl i (by simp; omega), Array.getElem?_setIfInBounds_ne (by omega)]

theorem add_addr (B o i : Nat) : (⟨B, o, none⟩ : Addr).add i = ⟨B, o + i, none⟩ := by unfold Addr.add; split <;> simp_all
theorem cell_of {w : World} {B : Nat} {C : Array Value} {ty : TypeId} {fz : Nat × Nat} (h : w.heap[B]? = some (.cells C ty fz)) (o : Nat) : w.cell? ⟨B, o, none⟩ = C[o]? := by
  simp [World.cell?, h]
theorem frozen_of {w : World} {B : Nat} {C : Array Value} {ty : TypeId} {fz : Nat × Nat} (h : w.heap[B]? = some (.cells C ty fz)) (o : Nat) :
    w.frozen? ⟨B, o, none⟩ = (decide (fz.1 ≤ o) && decide (o < fz.2)) := by
  simp [World.frozen?, h]
theorem setCell_put {w : World} {B : Nat} {C : Array Value} {ty : TypeId} {fz : Nat × Nat} (h : w.heap[B]? = some (.cells C ty fz)) (o : Nat) (v : Value) :
    w.setCell ⟨B, o, none⟩ v = putBlk w B (.cells (C.setIfInBounds o v) ty fz) := by
  unfold World.setCell putBlk
  congr 1
  apply Array.ext_getElem?
  intro i
  rw [Array.getElem?_modify]
  by_cases hi : B = i
  · subst hi
    have hlt : B < w.heap.size := by
      rcases Nat.lt_or_ge B w.heap.size with h1 | h1
      · exact h1
      · simp [Array.getElem?_eq_none h1] at h
    rw [if_pos rfl, h, Array.getElem?_setIfInBounds_self_of_lt hlt]
    rfl
  · rw [if_neg hi, Array.getElem?_setIfInBounds_ne hi]

theorem run_storeCells {P : Program} {B off : Nat} {ty : TypeId} {fz : Nat × Nat} : ∀ (xs : List Value) (i : Nat) (C : Array Value) (w : World),
    w.heap[B]? = some (.cells C ty fz) → off + i + xs.length ≤ C.size → (∀ v ∈ xs, v.oneCell' = true) → Unfrozen fz C.size →
    (storeCells ⟨B, off, none⟩ xs i).run P w = .ok () (putBlk w B (.cells (asplice C (off + i) xs) ty fz))
  | [], i, C, w, h, _, _, _ => by
    rw [asplice_nil, putBlk_self _ _ _ h]; rfl
  | v :: xs, i, C, w, h, hl, h1, hf => by
    have hB : B < w.heap.size := by
      rcases Nat.lt_or_ge B w.heap.size with h1 | h1
      · exact h1
      · simp [Array.getElem?_eq_none h1] at h
    have hlt : off + i < C.size := by simp at hl; omega
    have hst : (store ((⟨B, off, none⟩ : Addr).add i) v).run P w = .ok () (putBlk w B (.cells (C.setIfInBounds (off + i) v) ty fz)) := by
      rw [add_addr, ← setCell_put h]
      have hc : w.cell? ⟨B, off + i, none⟩ = some C[off + i] := by rw [cell_of h]; simp [hlt]
      have hz : w.frozen? ⟨B, off + i, none⟩ = false := by
        rw [frozen_of h]
        have := hf (off + i) hlt
        simp only [Bool.and_eq_false_iff, decide_eq_false_iff_not]
        omega
      have hv := h1 v (by simp)
      cases v <;> first | (simp [Value.oneCell'] at hv; done) | simp [store, Sem.run, hc, hz]
    simp only [storeCells, Sem.run_bind, hst, Result.andThen_ok]
    rw [run_storeCells xs (i + 1) (C.setIfInBounds (off + i) v) _ (putBlk_get _ _ _ hB) (by simp at hl ⊢; omega) (fun u hu => h1 u (by simp [hu])) (by simpa using hf), putBlk_putBlk]
    rw [show off + (i + 1) = off + i + 1 by omega, asplice_cons _ _ _ _ (by simp at hl; omega)]

/-- cells that are read -/
theorem run_loadCells' {P : Program} {w : World} {B o n : Nat} {C : Array Value} {ty : TypeId} {fz : Nat × Nat} (h : w.heap[B]? = some (.cells C ty fz)) (hn : o + n ≤ C.size) :
    (loadCells ⟨B, o, none⟩ n).run P w = .ok ((C.toList.drop o).take n).toArray w := by
  have hl : ((C.toList.drop o).take n).length = n := by simp; omega
  have := run_loadCells_list (P := P) w ⟨B, o, none⟩ ((C.toList.drop o).take n) (fun j v hv => by
    rw [add_addr, cell_of h]
    have hj : j < n := by
      rcases Nat.lt_or_ge j n with h1 | h1
      · exact h1
      · rw [List.getElem?_eq_none (by omega)] at hv; simp at hv
    rw [List.getElem?_take_of_lt hj, List.getElem?_drop, Array.getElem?_toList] at hv
    exact hv)
  rw [hl] at this
  exact this

theorem CellsAt.mono {ι ι' : Emb} (hle : ι.le ι') {C : Array Value} {base : Nat} {cs : List Value} (h : CellsAt ι C base cs) : CellsAt ι' C base cs :=
  fun i v hv => let ⟨v', h1, h2⟩ := h i v hv; ⟨v', h1, h2.mono hle⟩
theorem CellsAt.slice {ι : Emb} {C : Array Value} {base : Nat} {cs : List Value} (h : CellsAt ι C base cs) {o n : Nat} (hn : o + n ≤ cs.length) :
    RVs ι ((cs.drop o).take n) ((C.toList.drop (base + o)).take n) := by
  have hlen : base + cs.length ≤ C.size ∨ cs = [] := by
    cases hcs : cs.getLast? with
    | none => right; simpa using hcs
    | some v =>
      left
      have h0 : cs[cs.length - 1]? = some v := by rw [← hcs, List.getLast?_eq_getElem?]
      obtain ⟨v', h1, _⟩ := h _ _ h0
      have h2 : base + (cs.length - 1) < C.size := by
        rcases Nat.lt_or_ge (base + (cs.length - 1)) C.size with h3 | h3
        · exact h3
        · simp [Array.getElem?_eq_none h3] at h1
      have : cs.length ≠ 0 := by intro e; simp [List.length_eq_zero_iff.1 e] at h0
      omega
  refine RVs.of_get ?_ ?_
  · rcases hlen with hl | hl
    · simp; omega
    · subst hl; simp at hn ⊢; omega
  · intro i v v' hv hv'
    have hi : i < n := by
      rcases Nat.lt_or_ge i n with h1 | h1
      · exact h1
      · rw [List.getElem?_eq_none (by simp; omega)] at hv; simp at hv
    rw [List.getElem?_take_of_lt hi, List.getElem?_drop] at hv
    rw [List.getElem?_take_of_lt hi, List.getElem?_drop, Array.getElem?_toList] at hv'
    obtain ⟨u, h1, h2⟩ := h _ _ hv
    rw [show base + (o + i) = base + o + i by omega] at h1
    rw [h1] at hv'
    simp at hv'; subst hv'; exact h2

theorem getElem?_lt {α : Type} {a : Array α} {i : Nat} {v : α} (h : a[i]? = some v) : i < a.size := by
  rcases Nat.lt_or_ge i a.size with h1 | h1
  · exact h1
  · simp [Array.getElem?_eq_none h1] at h

/-! ### what a step leaves -/
section
variable {E : Env} {ι : Emb} {H : AHeap} {w : World}

theorem Rel.world (h : Rel E ι H w) {w' : World} (hh : w'.heap = w.heap) : Rel E ι H w' := by
  constructor
  · rw [hh]; exact h.dom
  · rw [hh]; exact h.cells
  · rw [hh]; exact h.maps
  · exact h.inj
  · exact h.glob
theorem Step.world {ι' : Emb} {H' : AHeap} {w1 w2 : World} (h : Step ι H w ι' H' w1) (hh : w2.heap = w1.heap) (ho : w2.os = w1.os) (ht : w2.tape = w1.tape) (hp : w2.output = w1.output) : Step ι H w ι' H' w2 :=
  ⟨h.ext, h.new, h.hsz, h.own, h.place, h.liv, ho.trans h.os, ht.trans h.tape, hp.trans h.output, by rw [hh]; exact h.size, by rw [hh]; exact h.frame, h.away⟩

/-- a new block -/
def Emb.with (ι : Emb) (b : Nat) (l : Loc) : Emb := fun c => if c = b then some l else ι c
theorem Emb.with_same (ι : Emb) (b : Nat) (l : Loc) : ι.with b l b = some l := by simp [Emb.with]
theorem Emb.with_ne (ι : Emb) {b c : Nat} (l : Loc) (h : c ≠ b) : ι.with b l c = ι c := by simp [Emb.with, h]
theorem with_le (h : ι H.size = none) (l : Loc) : ι.le (ι.with H.size l) := fun b l' hb => by
  rw [Emb.with_ne _ _ (fun e => by subst e; rw [h] at hb; simp at hb)]; exact hb
theorem ne_size (hf : ι H.size = none) {b : Nat} {l : Loc} (h : ι b = some l) : b ≠ H.size := fun e => by subst e; rw [hf] at h; simp at h

theorem wrt_alloc_ne {o : AObj} {b : Nat} (h : b ≠ H.size) : wrt (H.alloc o) b = wrt H b := by simp [wrt, AHeap.get_alloc_ne _ _ (Ne.symm h)]
theorem live_alloc_ne {o : AObj} {b : Nat} (h : b ≠ H.size) : live (H.alloc o) b = live H b := by simp [live, AHeap.get_alloc_ne _ _ (Ne.symm h)]
theorem wrt_set_ne {o : AObj} {b c : Nat} (h : c ≠ b) : wrt (H.set c o) b = wrt H b := by simp [wrt, AHeap.get_set_ne _ _ h]
theorem live_set_ne {o : AObj} {b c : Nat} (h : c ≠ b) : live (H.set c o) b = live H b := by simp [live, AHeap.get_set_ne _ _ h]
theorem heap_alloc_lt (w : World) (o : Obj) {k : Nat} (h : k < w.heap.size) : (w.alloc o).heap[k]? = w.heap[k]? := by
  show (w.heap.push o)[k]? = _
  rw [Array.getElem?_push, if_neg (by omega)]
theorem heap_alloc_at (w : World) (o : Obj) : (w.alloc o).heap[w.heap.size]? = some o := by
  show (w.heap.push o)[w.heap.size]? = _
  simp
theorem size_alloc' (w : World) (o : Obj) : (w.alloc o).heap.size = w.heap.size + 1 := by show (w.heap.push o).size = _; simp

theorem Rel.alloc (h : Rel E ι H w) (hfree : ι H.size = none) {cs : List Value} {wr : Bool} {sz : Nat} {C : Array Value} {ty : TypeId} {fz : Nat × Nat}
    (hc : CellsAt ι C 0 cs) (hl : cs.length ≤ C.size) (hf : wr = true → Unfrozen fz C.size) (hf0 : wr = true → sz = 0 → fz.2 ≤ fz.1) :
    Rel E (ι.with H.size ⟨w.heap.size, 0, sz, C.size⟩) (H.alloc (.cells cs wr sz)) (w.alloc (.cells C ty fz)) ∧
    Step ι H w (ι.with H.size ⟨w.heap.size, 0, sz, C.size⟩) (H.alloc (.cells cs wr sz)) (w.alloc (.cells C ty fz)) := by
  have hle := with_le hfree ⟨w.heap.size, 0, sz, C.size⟩
  refine ⟨⟨?_, ?_, ?_, ?_, ?_⟩, ⟨hle, ?_, by simp [AHeap.size_alloc], ?_, ?_, ?_, rfl, rfl, rfl, by rw [size_alloc']; omega, fun B hB _ => heap_alloc_lt _ _ hB, ?_⟩⟩
  · intro b l hb
    rw [size_alloc']
    by_cases e : b = H.size
    · subst e; rw [Emb.with_same] at hb; simp at hb; subst hb; simp
    · rw [Emb.with_ne _ _ e] at hb; have := h.dom _ _ hb; omega
  · intro b l cs' wr' sz' hb hg
    by_cases e : b = H.size
    · subst e
      rw [Emb.with_same] at hb; simp at hb; subst hb
      rw [AHeap.get_alloc_same] at hg; simp at hg; obtain ⟨rfl, rfl, rfl⟩ := hg
      exact ⟨C, ty, fz, heap_alloc_at _ _, rfl, rfl, by simpa using hl, hc.mono hle, hf, hf0⟩
    · rw [Emb.with_ne _ _ e] at hb
      rw [AHeap.get_alloc_ne _ _ (Ne.symm e)] at hg
      obtain ⟨C', ty', fz', h1, h2, h3, h4, h5, h6, h7⟩ := h.cells _ _ _ _ _ hb hg
      exact ⟨C', ty', fz', by rw [heap_alloc_lt _ _ (h.dom _ _ hb)]; exact h1, h2, h3, h4, h5.mono hle, h6, h7⟩
  · intro b l es clk hb hg
    by_cases e : b = H.size
    · subst e; rw [AHeap.get_alloc_same] at hg; simp at hg
    · rw [Emb.with_ne _ _ e] at hb
      rw [AHeap.get_alloc_ne _ _ (Ne.symm e)] at hg
      obtain ⟨es', h1, h2⟩ := h.maps _ _ _ _ hb hg
      exact ⟨es', by rw [heap_alloc_lt _ _ (h.dom _ _ hb)]; exact h1, h2.mono hle⟩
  · intro b b' l l' hb hb' hne hw hv
    by_cases e : b = H.size
    · subst e
      rw [Emb.with_same] at hb; simp at hb; subst hb
      rw [Emb.with_ne _ _ (Ne.symm hne)] at hb'
      have := h.dom _ _ hb'
      simp; omega
    · rw [Emb.with_ne _ _ e] at hb
      rw [wrt_alloc_ne e] at hw
      by_cases e' : b' = H.size
      · subst e'
        rw [Emb.with_same] at hb'; simp at hb'; subst hb'
        have := h.dom _ _ hb
        simp; omega
      · rw [Emb.with_ne _ _ e'] at hb'
        rw [live_alloc_ne e'] at hv
        exact h.inj _ _ _ _ hb hb' hne hw hv
  · intro g hg
    obtain ⟨l, h1, h2, h3⟩ := h.glob g hg
    exact ⟨l, hle _ _ h1, h2, h3⟩
  · intro b l hb hn
    by_cases e : b = H.size
    · rw [AHeap.size_alloc]; omega
    · rw [Emb.with_ne _ _ e, hn] at hb; simp at hb
  · intro b l hb hw
    by_cases e : b = H.size
    · subst e; rw [Emb.with_same] at hb; simp at hb; subst hb; left; simp
    · rw [Emb.with_ne _ _ e] at hb; rw [wrt_alloc_ne e] at hw; exact .inr ⟨b, l, hb, rfl, hw⟩
  · intro b l hb hn
    by_cases e : b = H.size
    · subst e; rw [Emb.with_same] at hb; simp at hb; subst hb; left; simp
    · rw [Emb.with_ne _ _ e, hn] at hb; simp at hb
  · intro b hb hl
    rw [live_alloc_ne (by omega)] at hl; exact hl
  · intro b hb _
    exact AHeap.get_alloc_ne _ _ (by omega)

theorem Rel.allocMap (h : Rel E ι H w) (hfree : ι H.size = none) :
    Rel E (ι.with H.size ⟨w.heap.size, 0, 0, 0⟩) (H.alloc (.map [] 0)) (w.alloc (.map #[] 0)) ∧
    Step ι H w (ι.with H.size ⟨w.heap.size, 0, 0, 0⟩) (H.alloc (.map [] 0)) (w.alloc (.map #[] 0)) := by
  have hle := with_le hfree ⟨w.heap.size, 0, 0, 0⟩
  refine ⟨⟨?_, ?_, ?_, ?_, ?_⟩, ⟨hle, ?_, by simp [AHeap.size_alloc], ?_, ?_, ?_, rfl, rfl, rfl, by rw [size_alloc']; omega, fun B hB _ => heap_alloc_lt _ _ hB, ?_⟩⟩
  · intro b l hb
    rw [size_alloc']
    by_cases e : b = H.size
    · subst e; rw [Emb.with_same] at hb; simp at hb; subst hb; simp
    · rw [Emb.with_ne _ _ e] at hb; have := h.dom _ _ hb; omega
  · intro b l cs' wr' sz' hb hg
    by_cases e : b = H.size
    · subst e; rw [AHeap.get_alloc_same] at hg; simp at hg
    · rw [Emb.with_ne _ _ e] at hb
      rw [AHeap.get_alloc_ne _ _ (Ne.symm e)] at hg
      obtain ⟨C', ty', fz', h1, h2, h3, h4, h5, h6, h7⟩ := h.cells _ _ _ _ _ hb hg
      exact ⟨C', ty', fz', by rw [heap_alloc_lt _ _ (h.dom _ _ hb)]; exact h1, h2, h3, h4, h5.mono hle, h6, h7⟩
  · intro b l es clk hb hg
    by_cases e : b = H.size
    · subst e
      rw [Emb.with_same] at hb; simp at hb; subst hb
      rw [AHeap.get_alloc_same] at hg; simp at hg; obtain ⟨rfl, rfl⟩ := hg
      exact ⟨#[], heap_alloc_at _ _, .nil⟩
    · rw [Emb.with_ne _ _ e] at hb
      rw [AHeap.get_alloc_ne _ _ (Ne.symm e)] at hg
      obtain ⟨es', h1, h2⟩ := h.maps _ _ _ _ hb hg
      exact ⟨es', by rw [heap_alloc_lt _ _ (h.dom _ _ hb)]; exact h1, h2.mono hle⟩
  · intro b b' l l' hb hb' hne hw hv
    by_cases e : b = H.size
    · subst e
      rw [Emb.with_same] at hb; simp at hb; subst hb
      rw [Emb.with_ne _ _ (Ne.symm hne)] at hb'
      have := h.dom _ _ hb'
      simp; omega
    · rw [Emb.with_ne _ _ e] at hb
      rw [wrt_alloc_ne e] at hw
      by_cases e' : b' = H.size
      · subst e'
        rw [Emb.with_same] at hb'; simp at hb'; subst hb'
        have := h.dom _ _ hb
        simp; omega
      · rw [Emb.with_ne _ _ e'] at hb'
        rw [live_alloc_ne e'] at hv
        exact h.inj _ _ _ _ hb hb' hne hw hv
  · intro g hg
    obtain ⟨l, h1, h2, h3⟩ := h.glob g hg
    exact ⟨l, hle _ _ h1, h2, h3⟩
  · intro b l hb hn
    by_cases e : b = H.size
    · rw [AHeap.size_alloc]; omega
    · rw [Emb.with_ne _ _ e, hn] at hb; simp at hb
  · intro b l hb hw
    by_cases e : b = H.size
    · subst e; rw [Emb.with_same] at hb; simp at hb; subst hb; left; simp
    · rw [Emb.with_ne _ _ e] at hb; rw [wrt_alloc_ne e] at hw; exact .inr ⟨b, l, hb, rfl, hw⟩
  · intro b l hb hn
    by_cases e : b = H.size
    · subst e; rw [Emb.with_same] at hb; simp at hb; subst hb; left; simp
    · rw [Emb.with_ne _ _ e, hn] at hb; simp at hb
  · intro b hb hl
    rw [live_alloc_ne (by omega)] at hl; exact hl
  · intro b hb _
    exact AHeap.get_alloc_ne _ _ (by omega)

/-- a block of the world that an abstract block may write is written: what it then holds -/
theorem Rel.put (h : Rel E ι H w) {b : Nat} {l : Loc} {o : AObj} {O : Obj} (hb : ι b = some l) (hw : wrt H b = true) (ho : wrt H b = true → wrt (H.set b o) b = true → True)
    (hcells : ∀ cs wr sz, o = .cells cs wr sz → ∃ C ty fz, O = .cells C ty fz ∧ C.size = l.tot ∧ l.sz = sz ∧ l.base + cs.length ≤ l.tot ∧ CellsAt ι C l.base cs ∧ (wr = true → Unfrozen fz l.tot) ∧ (wr = true → sz = 0 → fz.2 ≤ fz.1))
    (hmaps : ∀ es clk, o = .map es clk → ∃ es', O = .map es' clk ∧ REs ι es es'.toList) :
    Rel E ι (H.set b o) (putBlk w l.blk O) ∧ Step ι H w ι (H.set b o) (putBlk w l.blk O) := by
  have hB := h.dom _ _ hb
  have hlive : live H b = true := by unfold wrt at hw; unfold live; revert hw; cases H.get b <;> simp
  have hother : ∀ b' l', ι b' = some l' → b' ≠ b → live (H.set b o) b' = true → l.blk ≠ l'.blk := fun b' l' hb' hne hv => by
    rw [live_set_ne (Ne.symm hne)] at hv
    exact h.inj _ _ _ _ hb hb' (Ne.symm hne) hw hv
  refine ⟨⟨?_, ?_, ?_, ?_, ?_⟩, ⟨Emb.le.refl ι, fun _ _ h1 h2 => by rw [h1] at h2; simp at h2, Nat.le_refl _, ?_, fun _ _ h1 h2 => by rw [h1] at h2; simp at h2, ?_, rfl, rfl, rfl, by rw [putBlk_size]; omega, ?_, ?_⟩⟩
  · intro c l' hc; rw [putBlk_size]; exact h.dom _ _ hc
  · intro c l' cs wr sz hc hg
    by_cases e : c = b
    · subst e
      rw [hb] at hc; simp at hc; subst hc
      rw [AHeap.get_set_same] at hg
      obtain ⟨C, ty, fz, h1, h2⟩ := hcells _ _ _ hg
      exact ⟨C, ty, fz, by rw [putBlk_get _ _ _ hB, h1], h2⟩
    · have hv : live (H.set b o) c = true := by unfold live; rw [hg]
      rw [AHeap.get_set_ne _ _ (Ne.symm e)] at hg
      obtain ⟨C, ty, fz, h1, h2⟩ := h.cells _ _ _ _ _ hc hg
      exact ⟨C, ty, fz, by rw [putBlk_ne _ _ _ (hother c l' hc e hv)]; exact h1, h2⟩
  · intro c l' es clk hc hg
    by_cases e : c = b
    · subst e
      rw [hb] at hc; simp at hc; subst hc
      rw [AHeap.get_set_same] at hg
      obtain ⟨es', h1, h2⟩ := hmaps _ _ hg
      exact ⟨es', by rw [putBlk_get _ _ _ hB, h1], h2⟩
    · have hv : live (H.set b o) c = true := by unfold live; rw [hg]
      rw [AHeap.get_set_ne _ _ (Ne.symm e)] at hg
      obtain ⟨es', h1, h2⟩ := h.maps _ _ _ _ hc hg
      exact ⟨es', by rw [putBlk_ne _ _ _ (hother c l' hc e hv)]; exact h1, h2⟩
  · intro c c' l1 l2 hc hc' hne hw' hv'
    have hw1 : wrt H c = true := by
      by_cases e : c = b
      · subst e; exact hw
      · rw [wrt_set_ne (Ne.symm e)] at hw'; exact hw'
    have hv1 : live H c' = true := by
      by_cases e : c' = b
      · subst e; exact hlive
      · rw [live_set_ne (Ne.symm e)] at hv'; exact hv'
    exact h.inj _ _ _ _ hc hc' hne hw1 hv1
  · exact h.glob
  · intro c l' hc hw'
    have hw1 : wrt H c = true := by
      by_cases e : c = b
      · subst e; exact hw
      · rw [wrt_set_ne (Ne.symm e)] at hw'; exact hw'
    exact .inr ⟨c, l', hc, rfl, hw1⟩
  · intro c _ hl
    by_cases e : c = b
    · subst e; exact hlive
    · rw [live_set_ne (Ne.symm e)] at hl; exact hl
  · intro B hB' hno
    have : l.blk ≠ B := fun e => by have := hno b l hb e; rw [hw] at this; simp at this
    exact putBlk_ne _ _ _ this
  · intro c hc hn
    have : b ≠ c := fun e => by subst e; rw [hb] at hn; simp at hn
    exact AHeap.get_set_ne _ _ this

theorem live_set_dead {b c : Nat} (hv : live (H.set b .dead) c = true) : c ≠ b ∧ live H c = true := by
  by_cases e : c = b
  · subst e; simp [live, AHeap.get_set_same] at hv
  · rw [live_set_ne (Ne.symm e)] at hv; exact ⟨e, hv⟩
theorem wrt_set_dead {b c : Nat} (hv : wrt (H.set b .dead) c = true) : c ≠ b ∧ wrt H c = true := by
  by_cases e : c = b
  · subst e; simp [wrt, AHeap.get_set_same] at hv
  · rw [wrt_set_ne (Ne.symm e)] at hv; exact ⟨e, hv⟩
theorem get_set_dead {b c : Nat} {o : AObj} (hv : (H.set b .dead).get c = o) (ho : o ≠ .dead) : c ≠ b ∧ H.get c = o := by
  by_cases e : c = b
  · subst e; rw [AHeap.get_set_same] at hv; exact absurd hv.symm ho
  · rw [AHeap.get_set_ne _ _ (Ne.symm e)] at hv; exact ⟨e, hv⟩

/-- a block is given up -/
theorem Rel.kill (h : Rel E ι H w) {b : Nat} {l : Loc} (hb : ι b = some l) : Rel E ι (H.set b .dead) w ∧ Step ι H w ι (H.set b .dead) w := by
  refine ⟨⟨h.dom, ?_, ?_, ?_, h.glob⟩, ⟨Emb.le.refl ι, fun _ _ h1 h2 => by rw [h1] at h2; simp at h2, Nat.le_refl _, ?_, fun _ _ h1 h2 => by rw [h1] at h2; simp at h2, fun _ _ hl => (live_set_dead hl).2, rfl, rfl, rfl, Nat.le_refl _, fun _ _ _ => rfl, ?_⟩⟩
  · intro c l' cs wr sz hc hg
    obtain ⟨_, h2⟩ := get_set_dead hg (by simp)
    exact h.cells _ _ _ _ _ hc h2
  · intro c l' es clk hc hg
    obtain ⟨_, h2⟩ := get_set_dead hg (by simp)
    exact h.maps _ _ _ _ hc h2
  · intro c c' l1 l2 hc hc' hne hw hv
    exact h.inj _ _ _ _ hc hc' hne (wrt_set_dead hw).2 (live_set_dead hv).2
  · intro c l' hc hw
    exact .inr ⟨c, l', hc, rfl, (wrt_set_dead hw).2⟩
  · intro c _ hn
    exact AHeap.get_set_ne _ _ (fun e => by subst e; rw [hb] at hn; simp at hn)

/-- a block is given up for a new one, that lies in its place -/
theorem Rel.consume (h : Rel E ι H w) (hfree : ι H.size = none) {b : Nat} {l : Loc} (hb : ι b = some l) (hw : wrt H b = true) {cs : List Value} {sz base : Nat} {C : Array Value} {ty : TypeId} {fz : Nat × Nat}
    (hc : CellsAt ι C base cs) (hl : base + cs.length ≤ C.size) (hf : Unfrozen fz C.size) (hsz : sz ≠ 0) :
    Rel E (ι.with H.size ⟨l.blk, base, sz, C.size⟩) ((H.set b .dead).alloc (.cells cs true sz)) (putBlk w l.blk (.cells C ty fz)) ∧
    Step ι H w (ι.with H.size ⟨l.blk, base, sz, C.size⟩) ((H.set b .dead).alloc (.cells cs true sz)) (putBlk w l.blk (.cells C ty fz)) := by
  have hle := with_le hfree ⟨l.blk, base, sz, C.size⟩
  have hB := h.dom _ _ hb
  have hother : ∀ b' l', ι b' = some l' → b' ≠ b → live H b' = true → l.blk ≠ l'.blk := fun b' l' hb' hne hv => h.inj _ _ _ _ hb hb' (Ne.symm hne) hw hv
  have hge : ∀ c o, c ≠ H.size → (((H.set b .dead).alloc o).get c) = (H.set b .dead).get c := fun c o hc => AHeap.get_alloc_ne _ _ (by simpa [AHeap.size_set] using Ne.symm hc)
  have hgs : ∀ o, ((H.set b .dead).alloc o).get H.size = o := fun o => AHeap.get_alloc_same (H.set b .dead) o
  refine ⟨⟨?_, ?_, ?_, ?_, ?_⟩, ⟨hle, ?_, by simp [AHeap.size_alloc, AHeap.size_set], ?_, ?_, ?_, rfl, rfl, rfl, by rw [putBlk_size]; omega, ?_, ?_⟩⟩
  · intro c l' hc'
    rw [putBlk_size]
    by_cases e : c = H.size
    · subst e; rw [Emb.with_same] at hc'; simp at hc'; subst hc'; exact hB
    · rw [Emb.with_ne _ _ e] at hc'; exact h.dom _ _ hc'
  · intro c l' cs' wr' sz' hc' hg
    by_cases e : c = H.size
    · subst e
      rw [Emb.with_same] at hc'; simp at hc'; subst hc'
      rw [hgs] at hg; simp at hg; obtain ⟨rfl, rfl, rfl⟩ := hg
      exact ⟨C, ty, fz, putBlk_get _ _ _ hB, rfl, rfl, hl, hc.mono hle, fun _ => hf, fun _ h0 => absurd h0 hsz⟩
    · rw [Emb.with_ne _ _ e] at hc'
      rw [hge _ _ e] at hg
      obtain ⟨hcb, hg'⟩ := get_set_dead hg (by simp)
      obtain ⟨C', ty', fz', h1, h2, h3, h4, h5, h6, h7⟩ := h.cells _ _ _ _ _ hc' hg'
      exact ⟨C', ty', fz', by rw [putBlk_ne _ _ _ (hother _ _ hc' hcb (by simp [live, hg']))]; exact h1, h2, h3, h4, h5.mono hle, h6, h7⟩
  · intro c l' es clk hc' hg
    by_cases e : c = H.size
    · subst e; rw [hgs] at hg; simp at hg
    · rw [Emb.with_ne _ _ e] at hc'
      rw [hge _ _ e] at hg
      obtain ⟨hcb, hg'⟩ := get_set_dead hg (by simp)
      obtain ⟨es', h1, h2⟩ := h.maps _ _ _ _ hc' hg'
      exact ⟨es', by rw [putBlk_ne _ _ _ (hother _ _ hc' hcb (by simp [live, hg']))]; exact h1, h2.mono hle⟩
  · intro c c' l1 l2 hc1 hc2 hne hw1 hv2
    by_cases e : c = H.size
    · subst e
      rw [Emb.with_same] at hc1; simp at hc1; subst hc1
      rw [Emb.with_ne _ _ (Ne.symm hne)] at hc2
      have hv : live (H.set b .dead) c' = true := by
        unfold live at hv2 ⊢; rw [hge _ _ (Ne.symm hne)] at hv2; exact hv2
      obtain ⟨h3, h4⟩ := live_set_dead hv
      exact hother _ _ hc2 h3 h4
    · rw [Emb.with_ne _ _ e] at hc1
      have hw' : wrt (H.set b .dead) c = true := by
        unfold wrt at hw1 ⊢; rw [hge _ _ e] at hw1; exact hw1
      obtain ⟨h3, h4⟩ := wrt_set_dead hw'
      by_cases e' : c' = H.size
      · subst e'
        rw [Emb.with_same] at hc2; simp at hc2; subst hc2
        have hlb : live H b = true := by unfold wrt at hw; unfold live; revert hw; cases H.get b <;> simp
        have := h.inj _ _ _ _ hc1 hb h3 h4 hlb
        exact this
      · rw [Emb.with_ne _ _ e'] at hc2
        have hv : live (H.set b .dead) c' = true := by
          unfold live at hv2 ⊢; rw [hge _ _ e'] at hv2; exact hv2
        exact h.inj _ _ _ _ hc1 hc2 hne h4 (live_set_dead hv).2
  · intro g hg
    obtain ⟨l', h1, h2, h3⟩ := h.glob g hg
    exact ⟨l', hle _ _ h1, h2, h3⟩
  · intro c l' hc' hn
    by_cases e : c = H.size
    · rw [AHeap.size_alloc, AHeap.size_set]; omega
    · rw [Emb.with_ne _ _ e, hn] at hc'; simp at hc'
  · intro c l' hc' hw1
    by_cases e : c = H.size
    · subst e; rw [Emb.with_same] at hc'; simp at hc'; subst hc'; exact .inr ⟨b, l, hb, rfl, hw⟩
    · rw [Emb.with_ne _ _ e] at hc'
      have hw' : wrt (H.set b .dead) c = true := by
        unfold wrt at hw1 ⊢; rw [hge _ _ e] at hw1; exact hw1
      exact .inr ⟨c, l', hc', rfl, (wrt_set_dead hw').2⟩
  · intro c l' hc' hn
    by_cases e : c = H.size
    · subst e; rw [Emb.with_same] at hc'; simp at hc'; subst hc'; exact .inr ⟨b, l, hb, rfl, hw⟩
    · rw [Emb.with_ne _ _ e, hn] at hc'; simp at hc'
  · intro c hc' hl
    have : live (H.set b .dead) c = true := by
      unfold live at hl ⊢; rw [hge _ _ (by omega)] at hl; exact hl
    exact (live_set_dead this).2
  · intro B hB' hno
    exact putBlk_ne _ _ _ (fun e => by have := hno b l hb e; rw [hw] at this; simp at this)
  · intro c hc' hn
    rw [hge _ _ (by omega)]
    exact AHeap.get_set_ne _ _ (fun e => by subst e; rw [hb] at hn; simp at hn)
end

end AbsYtlmcjfnignbdoaa
