/-
  A part of a law's proof.
-/
import Derived.Test.YtlmcjfnignbdoaaATh
import Derived.Test.YtlmcjfnignbdoaaAMe
namespace Go.Proofs.Ytlmcjfnignbdoaa.Abs
open Go AbsYtlmcjfnignbdoaa
set_option maxRecDepth 100000
set_option maxHeartbeats 2000000
set_option linter.unusedSimpArgs false
set_option linter.unusedVariables false
theorem tup0 {a b : Value} : (#[a, b] : Array Value)[0]? = some a := rfl
theorem tup1 {a b : Value} : (#[a, b] : Array Value)[1]? = some b := rfl
abbrev ik (n : Int) : Value := .int .i64 n
theorem ikeys : Keys ik (.int .i64) := int_keys .i64 .i64
/-! ### cells in pieces of one length -/
section
variable {α : Type} {f : α → List Value} {k : Nat}
theorem chunk_len (hf : ∀ a, (f a).length = k) : ∀ l : List α, (l.flatMap f).length = l.length * k
  | [] => by simp
  | a :: l => by rw [List.flatMap_cons, List.length_append, hf, chunk_len hf l, List.length_cons, Nat.add_mul]; omega
theorem chunk_drop (hf : ∀ a, (f a).length = k) : ∀ (l : List α) (i : Nat), (l.flatMap f).drop (i * k) = (l.drop i).flatMap f
  | l, 0 => by simp
  | [], i + 1 => by simp
  | a :: l, i + 1 => by
    rw [List.flatMap_cons, List.drop_succ_cons, ← chunk_drop hf l i, Nat.add_mul, Nat.one_mul, Nat.add_comm, ← List.drop_drop]
    congr 1
    exact List.drop_left' (hf a)
theorem chunk_take (hf : ∀ a, (f a).length = k) : ∀ (l : List α) (i : Nat), (l.flatMap f).take (i * k) = (l.take i).flatMap f
  | l, 0 => by simp
  | [], i + 1 => by simp
  | a :: l, i + 1 => by
    rw [List.flatMap_cons, List.take_succ_cons, List.flatMap_cons, ← chunk_take hf l i, Nat.add_mul, Nat.one_mul, Nat.add_comm (i * k), ← hf a, List.take_length_add_append]
theorem chunk_at (hf : ∀ a, (f a).length = k) (l : List α) (i : Nat) (h : i < l.length) : ((l.flatMap f).drop (i * k)).take k = f l[i] := by
  rw [chunk_drop hf, List.drop_eq_getElem_cons h, List.flatMap_cons]
  exact List.take_left' (hf _)
theorem chunk_cell (hf : ∀ a, (f a).length = k) {l : List α} {i j : Nat} (h : i < l.length) (hj : j < k) : (l.flatMap f)[i * k + j]? = (f l[i])[j]? := by
  rw [← chunk_at hf l i h, List.getElem?_take, if_pos hj, List.getElem?_drop]
theorem chunk_part (hf : ∀ a, (f a).length = k) {l : List α} {i j m : Nat} (h : i < l.length) (hj : j + m ≤ k) : ((l.flatMap f).drop (i * k + j)).take m = ((f l[i]).drop j).take m := by
  rw [← chunk_at hf l i h, List.drop_take, List.take_take, List.drop_drop, Nat.min_eq_left (by omega)]
theorem chunk_fit (hf : ∀ a, (f a).length = k) {l : List α} {i j : Nat} (h : i < l.length) (hj : j ≤ k) : i * k + j ≤ (l.flatMap f).length := by
  rw [chunk_len hf]
  have : (i + 1) * k ≤ l.length * k := Nat.mul_le_mul_right _ h
  rw [Nat.add_mul, Nat.one_mul] at this
  omega
theorem chunk_one (hf : ∀ a, (f a).all oneCell = true) : ∀ l : List α, (l.flatMap f).all oneCell = true
  | [] => rfl
  | a :: l => by rw [List.flatMap_cons, List.all_append, hf, chunk_one hf l]; rfl
theorem chunk_erase (hf : ∀ a, (f a).length = k) (l : List α) (i : Nat) : (l.eraseIdx i).flatMap f = (l.flatMap f).take (i * k) ++ (l.flatMap f).drop ((i + 1) * k) := by
  rw [List.eraseIdx_eq_take_drop_succ, List.flatMap_append, chunk_take hf, chunk_drop hf]
theorem chunk_snoc (l : List α) (a : α) : (l ++ [a]).flatMap f = l.flatMap f ++ f a := by simp
end
/-! ### a slice of its own, with room behind -/
def OwnC (H : AHeap) (sz : Nat) (v : Value) (n : Nat) (cs : List Value) : Prop :=
  (v = .slice none 0 0 ∧ n = 0 ∧ cs = []) ∨ ∃ b c ex sp, v = .slice (some ⟨b, 0, ex⟩) n c ∧ H.get b = .cells (cs ++ sp) true sz ∧ cs.length = n * sz ∧ n * sz + sp.length = c * sz ∧ (ex = none ∨ ex = some 1) ∧ b < H.size
theorem _root_.AbsYtlmcjfnignbdoaa.Own.c {H : AHeap} {sz n : Nat} {v : Value} {cs : List Value} (h : Own H sz v n cs) : OwnC H sz v n cs := by
  rcases h with h | ⟨b, rfl, h1, h2, h3⟩
  · exact .inl h
  · exact .inr ⟨b, n, none, [], rfl, by rw [List.append_nil]; exact h1, h2, by simp, .inl rfl, h3⟩
theorem OwnC.nil {H : AHeap} {sz : Nat} : OwnC H sz (.slice none 0 0) 0 [] := .inl ⟨rfl, rfl, rfl⟩
theorem OwnC.slice {H : AHeap} {sz n : Nat} {v : Value} {cs : List Value} (h : OwnC H sz v n cs) : SliceAt H sz v n cs := by
  rcases h with ⟨rfl, rfl, rfl⟩ | ⟨b, c, ex, sp, rfl, h1, h2, h3, h4, h5⟩
  · exact SliceAt.nil
  · exact ⟨h2, .inr ⟨b, 0, c, ex, _, true, rfl, h1, by rw [List.length_append]; omega, by rw [List.drop_zero, ← h2, List.take_left], h5⟩⟩
theorem OwnC.sz {H : AHeap} {sz n : Nat} {v : Value} {cs : List Value} (h : OwnC H sz v n cs) {b : Nat} (hb : b ∈ blkOf v) : (∃ xs, H.get b = .cells xs true sz) ∧ b < H.size := by
  rcases h with ⟨rfl, _, _⟩ | ⟨b', c, ex, sp, rfl, h1, _, _, _, h5⟩
  · simp [blkOf] at hb
  · simp [blkOf] at hb; subst hb; exact ⟨⟨_, h1⟩, h5⟩
theorem OwnC.off {H : AHeap} {sz sz' n : Nat} {v : Value} {cs xs : List Value} {wr : Bool} (h : OwnC H sz v n cs) {b : Nat} (hg : H.get b = .cells xs wr sz') (hne : sz ≠ sz') : b ∉ blkOf v := fun hb => by
  obtain ⟨⟨ys, this⟩, _⟩ := h.sz hb
  rw [hg] at this; injection this with _ _ e; exact hne e.symm
theorem OwnC.offm {H : AHeap} {sz n : Nat} {v : Value} {cs : List Value} {es : List MapEntry} {clk : Nat} (h : OwnC H sz v n cs) {b : Nat} (hg : H.get b = .map es clk) : b ∉ blkOf v := fun hb => by
  obtain ⟨⟨ys, this⟩, _⟩ := h.sz hb
  rw [hg] at this; cases this
theorem OwnC.keep {H H' : AHeap} {sz n : Nat} {v : Value} {cs : List Value} (h : OwnC H sz v n cs) (hs : H.size ≤ H'.size) (hk : ∀ b ∈ blkOf v, H'.get b = H.get b) : OwnC H' sz v n cs := by
  rcases h with h | ⟨b, c, ex, sp, rfl, h1, h2, h3, h4, h5⟩
  · exact .inl h
  · exact .inr ⟨b, c, ex, sp, rfl, by rw [hk b (by simp [blkOf])]; exact h1, h2, h3, h4, by omega⟩
theorem OwnC.shape {H : AHeap} {sz n : Nat} {v : Value} {cs : List Value} (h : OwnC H sz v n cs) : vcells v = [v] ∧ oneCell v = true := by
  rcases h with ⟨rfl, _, _⟩ | ⟨b', c, ex, sp, rfl, _⟩
  · exact ⟨rfl, rfl⟩
  · exact ⟨rfl, rfl⟩
theorem OwnC.append {H : AHeap} {sz n : Nat} {v : Value} {cs new : List Value} (h : OwnC H sz v n cs) {t e : Nat} {j : TI} {a b c : Nat} {z : Option (List ZV)} {q : Bool} {zs : List Value} (ht : E.ty.get t = some ⟨.slice e, a, b, z, q⟩) (he : E.ty.get e = some j) (hj : j.size = sz) (hz : azero E e = some zs) (hzl : zs.length = sz) (hsz : 0 < sz) (hby : j.bytes ≠ 0)
    {w1 : Bool} {ex : Option Nat} (hb1 : H.get c = .cells new w1 sz) (hcl : c ∉ blkOf v) (hnl : new.length = sz) (hone : new.all oneCell = true) (hfit : (n + 1) * j.bytes ≤ 140737488355328) :
    ∃ r H', abuiltin E H .append [t, t] [v, .slice (some ⟨c, 0, ex⟩) 1 1] = some (r, H') ∧ OwnC H' sz r (n + 1) (cs ++ new) ∧ H.size ≤ H'.size ∧
      (∀ b, b < H.size → b ∉ blkOf v → H'.get b = H.get b) ∧ ∀ b ∈ blkOf r, b ∈ blkOf v ∨ H.size ≤ b := by
  have hsrc : srcCells H j.size (.slice (some ⟨c, 0, ex⟩) 1 1) = some (1, new) := by
    simp [srcCells, takeCells, hb1, hj, hnl, List.take_of_length_le (Nat.le_of_eq hnl)]
  rcases h with ⟨rfl, rfl, rfl⟩ | ⟨b', c', ex', sp, rfl, h1, h2, h3, h4, h5⟩
  · obtain ⟨H', k1, k2, k3, k4⟩ := Own.append (E := E) (H := H) (cs := []) (.inl ⟨rfl, rfl, rfl⟩) ht he hj hz hzl (by omega) hby hb1 hnl hone hfit (ex := ex)
    exact ⟨_, H', k1, k2.c, by omega, k4, fun b hb => .inr (by simp [blkOf] at hb; omega)⟩
  · subst hj
    by_cases hc : n + 1 ≤ c'
    · have hroom : j.size ≤ sp.length := by
        have : (n + 1) * j.size ≤ c' * j.size := Nat.mul_le_mul_right _ hc
        rw [Nat.add_mul, Nat.one_mul] at this; omega
      have hspl : splice (cs ++ sp) (n * j.size) new = (cs ++ new) ++ sp.drop j.size := by
        rw [← h2]; simp [splice, hnl, List.drop_append]
      refine ⟨.slice (some ⟨b', 0, ex'⟩) (n + 1) c', H.set b' (.cells (splice (cs ++ sp) (n * j.size) new) true j.size), ?_, .inr ⟨b', c', ex', sp.drop j.size, rfl, ?_, ?_, ?_, h4, by rw [AHeap.size_set]; exact h5⟩, by rw [AHeap.size_set]; exact Nat.le_refl _, fun b hb hn => AHeap.get_set_ne _ _ (fun e => hn (by simp [blkOf, e])), fun b hb => .inl (by simpa [blkOf] using hb)⟩
      · simp only [abuiltin, aappend, ht, he, hz, hsrc]
        simp [Nat.ne_of_gt hsz, hby, hzl, TK.isInt, hc, h1, astoreAt, hone, h2, hnl, hroom]
      · rw [AHeap.get_set_same, hspl]
      · rw [List.length_append, h2, hnl, Nat.add_mul, Nat.one_mul]
      · rw [List.length_drop, Nat.add_mul, Nat.one_mul]; omega
    · have hn : n = c' := by
        by_cases hlt : c' < n
        · have : (c' + 1) * j.size ≤ n * j.size := Nat.mul_le_mul_right _ hlt
          rw [Nat.add_mul, Nat.one_mul] at this; omega
        · omega
      subst hn
      obtain rfl : sp = [] := List.eq_nil_of_length_eq_zero (by omega)
      rw [List.append_nil] at h1
      rcases h4 with rfl | rfl
      · obtain ⟨H', k1, k2, k3, k4⟩ := Own.append (E := E) (H := H) (cs := cs) (.inr ⟨b', rfl, h1, h2, h5⟩) ht he rfl hz hzl (by omega) hby hb1 hnl hone hfit (ex := ex)
        exact ⟨_, H', k1, k2.c, by omega, k4, fun b hb => .inr (by simp [blkOf] at hb; omega)⟩
      · refine ⟨.slice (some ⟨H.size, 0, none⟩) (n + 1) (n + 1), H.alloc (.cells (cs ++ new) true j.size), ?_, Own.c (.inr ⟨H.size, rfl, AHeap.get_alloc_same _ _, by rw [List.length_append, h2, hnl, Nat.add_mul, Nat.one_mul], by simp [AHeap.size_alloc]⟩), by simp [AHeap.size_alloc], fun b hb _ => AHeap.get_alloc_ne _ _ (by omega), fun b hb => .inr (by simp [blkOf] at hb; omega)⟩
        simp only [abuiltin, aappend, ht, he, hz, hsrc]
        simp [Nat.ne_of_gt hsz, hby, hzl, TK.isInt, hfit, hone, takeCells, h1, h2, List.take_of_length_le (Nat.le_of_eq h2)]
/-! ### what an operation leaves -/
structure Kept (H H' : AHeap) : Prop where
  size : H.size ≤ H'.size
  get : ∀ b, b < H.size → ∀ cs wr, H.get b = .cells cs wr 4 → H'.get b = .cells cs wr 4
theorem Kept.refl (H : AHeap) : Kept H H := ⟨Nat.le_refl _, fun _ _ _ _ h => h⟩
theorem Kept.trans {H H1 H2 : AHeap} (h : Kept H H1) (k : Kept H1 H2) : Kept H H2 := ⟨Nat.le_trans h.size k.size, fun b hb cs wr hg => k.get b (Nat.lt_of_lt_of_le hb h.size) cs wr (h.get b hb cs wr hg)⟩
def Grow (D : Nat → Prop) (H H' : AHeap) : Nat → Prop := fun b => D b ∨ (H.size ≤ b ∧ b < H'.size)
structure Did (D : Nat → Prop) (H H' : AHeap) : Prop where
  but : But D H H'
  kept : Kept H H'
theorem Did.refl {D : Nat → Prop} {H : AHeap} : Did D H H := ⟨But.refl _ _, Kept.refl _⟩
theorem Did.size {D : Nat → Prop} {H H' : AHeap} (h : Did D H H') : H.size ≤ H'.size := h.kept.size
theorem _root_.AbsYtlmcjfnignbdoaa.Ext.did {D : Nat → Prop} {H H' : AHeap} (h : Ext H H') : Did D H H' := ⟨h.but, h.size, fun b hb cs wr hg => by rw [h.get b hb]; exact hg⟩
theorem Did.trans {D : Nat → Prop} {H H1 H2 : AHeap} (h : Did D H H1) (k : Did (Grow D H H1) H1 H2) : Did D H H2 :=
  ⟨⟨Nat.le_trans h.size k.size, fun b hb hn => by rw [k.but.get b (Nat.lt_of_lt_of_le hb h.size) (by rintro (hd | hd); exact hn hd; omega), h.but.get b hb hn]⟩, h.kept.trans k.kept⟩
theorem Grow.trans {D : Nat → Prop} {H H1 H2 : AHeap} (h : H.size ≤ H1.size) (k : H1.size ≤ H2.size) {b : Nat} : Grow (Grow D H H1) H1 H2 b ↔ Grow D H H2 b := by
  unfold Grow; constructor
  · rintro ((h | h) | h)
    · exact .inl h
    · exact .inr ⟨h.1, by omega⟩
    · exact .inr ⟨by omega, h.2⟩
  · rintro (h | h)
    · exact .inl (.inl h)
    · by_cases hb : b < H1.size
      · exact .inl (.inr ⟨h.1, hb⟩)
      · exact .inr ⟨by omega, h.2⟩
theorem Grow.eq {D : Nat → Prop} {H H1 H2 : AHeap} (h : H.size ≤ H1.size) (k : H1.size ≤ H2.size) : Grow (Grow D H H1) H1 H2 = Grow D H H2 := funext fun b => propext (Grow.trans h k)
theorem Grow.self {D : Nat → Prop} {H : AHeap} : Grow D H H = D := funext fun b => propext ⟨fun h => h.elim id fun h => by omega, .inl⟩
theorem Did.mono {D S : Nat → Prop} {H H' : AHeap} (h : Did S H H') (hS : ∀ b, b < H.size → S b → D b) : Did D H H' :=
  ⟨⟨h.size, fun b hb hn => h.but.get b hb (fun hs => hn (hS b hb hs))⟩, h.kept⟩
theorem OwnC.did {D : Nat → Prop} {H H' : AHeap} {sz n : Nat} {v : Value} {cs : List Value} (h : OwnC H sz v n cs) (h4 : sz ≠ 4) (hs : H.size ≤ H'.size) (hk : ∀ b, b < H.size → b ∉ blkOf v → H'.get b = H.get b) (hD : ∀ b ∈ blkOf v, D b) : Did D H H' :=
  ⟨⟨hs, fun b hb hn => hk b hb (fun hv => hn (hD b hv))⟩, hs, fun b hb cs wr hg => by
    rw [hk b hb (fun hv => by obtain ⟨⟨xs, hx⟩, _⟩ := h.sz hv; rw [hg] at hx; injection hx with _ _ e; exact h4 e.symm)]; exact hg⟩
/-- one block is written -/
theorem did_set {D : Nat → Prop} {H : AHeap} {b : Nat} {o : AObj} (hD : D b) (hne : ∀ cs wr, H.get b ≠ .cells cs wr 4) : Did D H (H.set b o) :=
  ⟨⟨by rw [AHeap.size_set]; exact Nat.le_refl _, fun c _ hn => AHeap.get_set_ne _ _ (fun e => hn (e ▸ hD))⟩, by rw [AHeap.size_set]; exact Nat.le_refl _, fun c _ cs wr hg => by
    have hbc : b ≠ c := fun e => by subst e; exact hne cs wr hg
    rw [AHeap.get_set_ne _ _ hbc]; exact hg⟩
/-! ### messages -/
structure Msg where
  t : ByteArray
  p : ByteArray
  q : Int
  rt : Bool
  n : Nat
  cs : List Value
  fr : ByteArray
  un : Int
  sq : Int
  g : ByteArray
def Msg.v (m : Msg) (sl : Value) : List Value := msgV m.t m.p m.q m.rt sl m.fr m.un m.sq m.g
structure Fl where
  id : Int
  st : Int
  m : Msg
def Fl.put (f : Fl) (st : Int) : Fl := ⟨f.id, st, f.m⟩
abbrev FS := List (Fl × Value)
def mcell (p : Msg × Value) : List Value := p.1.v p.2
def fcell (p : Fl × Value) : List Value := .int .i64 p.1.id :: .int .i64 p.1.st :: p.1.m.v p.2
abbrev fcells (F : FS) : List Value := F.flatMap fcell
abbrev mcells (F : List (Msg × Value)) : List Value := F.flatMap mcell
theorem mcell_len (p : Msg × Value) : (mcell p).length = 9 := rfl
theorem fcell_len (p : Fl × Value) : (fcell p).length = 11 := rfl
def Mem (H : AHeap) (m : Msg) (sl : Value) : Prop := SliceAt H 4 sl m.n m.cs ∧ PropCells m.cs ∧ m.n ≤ 70
theorem Mem.shape {H : AHeap} {m : Msg} {sl : Value} (h : Mem H m sl) : ∃ a n c, sl = .slice a n c := slice_shape h.1
theorem Mem.keep {H H' : AHeap} {m : Msg} {sl : Value} (h : Mem H m sl) (k : Kept H H') : Mem H' m sl := by
  refine ⟨⟨h.1.len, ?_⟩, h.2⟩
  rcases h.1.at' with h1 | ⟨b, o, c, ex, all, wr, h1, h2, h3, h4, h5⟩
  · exact .inl h1
  · exact .inr ⟨b, o, c, ex, all, wr, h1, k.get b h5 _ _ h2, h3, h4, Nat.lt_of_lt_of_le h5 k.size⟩
def Mems (H : AHeap) (F : FS) : Prop := ∀ p ∈ F, Mem H p.1.m p.2
theorem Mems.keep {H H' : AHeap} {F : FS} (h : Mems H F) (k : Kept H H') : Mems H' F := fun p hp => (h p hp).keep k
theorem Mem.one {H : AHeap} {m : Msg} {sl : Value} (h : Mem H m sl) : (m.v sl).all oneCell = true := by
  obtain ⟨a, n, c, rfl⟩ := h.shape; rfl
theorem Mem.onef {H : AHeap} {p : Fl × Value} (h : Mem H p.1.m p.2) : (fcell p).all oneCell = true := by
  have := h.one
  simpa [fcell, oneCell] using this
theorem zero31 : azero E 31 = some [.string ⟨#[]⟩, .string ⟨#[]⟩, .int .i64 0, .bool false, .slice none 0 0, .string ⟨#[]⟩, .int .i64 0, .int .i64 0, .string ⟨#[]⟩] := rfl
theorem zero75 : azero E 75 = some [.int .i64 0, .int .i64 0, .string ⟨#[]⟩, .string ⟨#[]⟩, .int .i64 0, .bool false, .slice none 0 0, .string ⟨#[]⟩, .int .i64 0, .int .i64 0, .string ⟨#[]⟩] := rfl
theorem build31 : abuild E 31 [] = some (.agg #[.string ⟨#[]⟩, .string ⟨#[]⟩, .int .i64 0, .bool false, .slice none 0 0, .string ⟨#[]⟩, .int .i64 0, .int .i64 0, .string ⟨#[]⟩]) := by kernel_rfl
theorem build75 {id st : Int} {m : Msg} {a : Option Addr} {n c : Nat} : abuild E 75 [(0, .int .i64 id), (1, .int .i64 st), (2, .agg (m.v (.slice a n c)).toArray)] = some (.agg (fcell (⟨id, st, m⟩, .slice a n c)).toArray) := by kernel_rfl
theorem bs50 {H : AHeap} {p : Fl × Value} : abuildSlice E H 50 1 [(0, .agg (fcell p).toArray)] = some (.slice (some ⟨H.size, 0, some 1⟩) 1 1, H.alloc (.cells (fcell p) true 11)) := by
  simp [abuildSlice, ty50, ty75, azero, lfill, reps, splice, vcells, ZV.val, fcell, Msg.v, msgV]
theorem bs63 {H : AHeap} {p : Msg × Value} : abuildSlice E H 63 1 [(0, .agg (mcell p).toArray)] = some (.slice (some ⟨H.size, 0, some 1⟩) 1 1, H.alloc (.cells (mcell p) true 9)) := by
  simp [abuildSlice, ty63, ty31, azero, lfill, reps, splice, vcells, ZV.val, mcell, Msg.v, msgV]
/-- a flight, and its message, out of the flights' cells -/
theorem ld75 {H : AHeap} {b i : Nat} {F : FS} {sp : List Value} {wr : Bool} {sz : Nat} (hg : H.get b = .cells (fcells F ++ sp) wr sz) (hi : i < F.length) : aload E H 75 (.pointer (some ⟨b, i * 11, none⟩)) = some (.agg (fcell F[i]).toArray) := by
  have hf : i * 11 + 11 ≤ (fcells F).length := chunk_fit fcell_len hi (Nat.le_refl 11)
  rw [ld_agg ty75 rfl hg (show i * 11 + 11 ≤ _ by rw [List.length_append]; omega)]
  show some (Value.agg (((fcells F ++ sp).drop (i * 11)).take 11).toArray) = _
  rw [List.drop_append_of_le_length (by omega), List.take_append_of_le_length (by rw [List.length_drop]; omega)]
  rw [chunk_at fcell_len F i hi]
theorem ld75m {H : AHeap} {b i : Nat} {F : FS} {sp : List Value} {wr : Bool} {sz : Nat} (hg : H.get b = .cells (fcells F ++ sp) wr sz) (hi : i < F.length) : aload E H 31 (.pointer (some ⟨b, i * 11 + 2, none⟩)) = some (.agg (F[i].1.m.v F[i].2).toArray) := by
  have hf : i * 11 + 11 ≤ (fcells F).length := chunk_fit fcell_len hi (Nat.le_refl 11)
  rw [ld_agg ty31 rfl hg (show i * 11 + 2 + 9 ≤ _ by rw [List.length_append]; omega)]
  show some (Value.agg (((fcells F ++ sp).drop (i * 11 + 2)).take 9).toArray) = _
  rw [List.drop_append_of_le_length (by omega), List.take_append_of_le_length (by rw [List.length_drop]; omega)]
  rw [chunk_part fcell_len hi (show 2 + 9 ≤ 11 by omega)]
  rfl
theorem fcells_get {F : FS} {sp : List Value} {i j : Nat} (hi : i < F.length) (hj : j < 11) : (fcells F ++ sp)[i * 11 + j]? = (fcell F[i])[j]? := by
  have hf' : i * 11 + 11 ≤ (fcells F).length := chunk_fit fcell_len hi (Nat.le_refl 11)
  rw [List.getElem?_append_left (by omega), chunk_cell fcell_len hi hj]
theorem condC_mono {E : Env} {v : Value} {a b : Code} {A : List Value} {H : AHeap} {Q Q' : AExit → List Value → AHeap → Prop} (h : condC E v a b A H Q) (hq : ∀ e A H, Q e A H → Q' e A H) : condC E v a b A H Q' := by
  unfold condC condW at *
  split at h
  · exact ⟨fun e => (h.1 e).mono hq, fun e => (h.2 e).mono hq⟩
  · exact h.elim
/-- a loop whose steps are counted -/
theorem W_count {E : Env} {H : AHeap} {Q : AExit → List Value → AHeap → Prop} {c : Code} {n : Nat} {f : Nat → Value} (I : Nat → (Nat → Value) → AHeap → Prop) {k : Nat} (h0 : I k f H)
    (h : ∀ k f H, I k f H → CodeW E c (L n f) H (thenQ Q fun A' H' => ∃ f' k', A' = L n f' ∧ I k' f' H' ∧ k' < k)) : CodeW E (.loop c) (L n f) H Q := by
  induction k using Nat.strongRecOn generalizing f H with
  | ind k ih =>
    refine w_loop ((h k f H h0).mono fun e A' H' hq => ?_)
    cases e with
    | normal =>
      obtain ⟨f', k', rfl, hI, hk⟩ := hq
      exact ih k' hk hI
    | exit id => exact hq
    | ret => exact hq
end Go.Proofs.Ytlmcjfnignbdoaa.Abs
