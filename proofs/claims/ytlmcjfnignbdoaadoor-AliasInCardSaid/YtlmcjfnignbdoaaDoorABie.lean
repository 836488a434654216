/-
  A part of a law's proof.
-/
import Derived.Test.YtlmcjfnignbdoaaDoorABid
namespace Go.Proofs.YtlmcjfnignbdoaaDoor.AbsB
open Go AbsYtlmcjfnignbdoaaDoor Abs
set_option maxRecDepth 100000
set_option maxHeartbeats 4000000
set_option linter.unusedSimpArgs false
set_option linter.unusedVariables false
theorem build60 {m : Int} : abuild E 60 [(0, .int .i64 m)] = some (.agg #[.int .i64 m, .slice none 0 0]) := by kernel_rfl
theorem build60e : abuild E 60 [] = some (.agg #[.int .i64 0, .slice none 0 0]) := by kernel_rfl
theorem build63e : abuild E 63 [] = some (.agg #[.int .i64 0, .map none]) := by kernel_rfl
theorem build64 {H : AHeap} {p q : Value} (hp : vcells p = [p]) (hq : vcells q = [q]) : abuildSlice E H 64 2 [(0, p), (1, q)] = some (.slice (some ⟨H.size, 0, some 1⟩) 2 2, H.alloc (.cells [p, q] true 1)) := by
  simp [abuildSlice, ty64, ty36, azero, lfill, reps, splice, hp, hq, ZV.val]
/-- what lies there between two topics -/
structure Told2 (H0 : AHeap) (m : Int) (G : List Giv) (H : AHeap) : Prop where
  ext : Ext H0 H
  size : H0.size + 6 ≤ H.size
  mp : ∃ l, MapIs ik H H0.size l ∧ MG l G
  a : H.get (H0.size + 1) = .cells [.int .i64 (if (65535 : Int) < m then 65535 else m), .map (some H0.size)] true 0
  x : ∃ v, H.get (H0.size + 2) = .cells [.int .i64 m, v] true 0 ∧ Own H 2 v G.length (gcells G)
  n : H.get (H0.size + 3) = .cells [.int .i64 0, .map none] true 0
  l : H.get (H0.size + 4) = .cells [.pointer none, .pointer (some ⟨H0.size + 3, 0, none⟩)] true 1
  z : ∃ v, H.get (H0.size + 5) = .cells [.int .i64 0, v] true 0 ∧ Own H 2 v 0 []
/-- blocks of structs, and maps, are no slice's -/
theorem Told2.keep {H0 H H' : AHeap} {m : Int} {G : List Giv} (h : Told2 H0 m G H) (x : Ext H H') : Told2 H0 m G H' := by
  obtain ⟨e, s, ⟨l, m1, m2⟩, a, ⟨v, x1, x2⟩, n, l', ⟨w, z1, z2⟩⟩ := h
  have g : ∀ b, b < H.size → H'.get b = H.get b := x.get
  exact ⟨e.trans x, Nat.le_trans s x.size, ⟨l, m1.keep (g _ (by omega)), m2⟩, by rw [g _ (by omega)]; exact a, ⟨v, by rw [g _ (by omega)]; exact x1, x2.keep x.size fun b hb => g b (x2.sz hb).2⟩, by rw [g _ (by omega)]; exact n, by rw [g _ (by omega)]; exact l', ⟨w, by rw [g _ (by omega)]; exact z1, z2.keep x.size fun b hb => g b (z2.sz hb).2⟩⟩
theorem spec8_start {H : AHeap} {m : Int} : ∀ H1 : AHeap, H1 = (H.alloc (.map [] 0)).alloc (.cells [.int .i64 (if (65535 : Int) < m then 65535 else m), .map (some H.size)] true 0) →
    Told2 H m [] ((((H1.alloc (.cells [.int .i64 m, .slice none 0 0] true 0)).alloc (.cells [.int .i64 0, .map none] true 0)).alloc (.cells [.pointer none, .pointer (some ⟨H.size + 3, 0, none⟩)] true 1)).alloc (.cells [.int .i64 0, .slice none 0 0] true 0)) := by
  rintro H1 rfl
  have hz : ∀ a b c d e f, ((((((H.alloc a).alloc b).alloc c).alloc d).alloc e).alloc f).size = H.size + 6 := fun a b c d e f => by simp [AHeap.size_alloc]
  have g : ∀ a b c d e f k, ((((((H.alloc a).alloc b).alloc c).alloc d).alloc e).alloc f).get k = if k = H.size + 5 then f else if k = H.size + 4 then e else if k = H.size + 3 then d else if k = H.size + 2 then c else if k = H.size + 1 then b else if k = H.size then a else H.get k := fun a b c d e f k => by
    simp only [get_alloc, AHeap.size_alloc]
  refine ⟨⟨by rw [hz]; omega, fun b hb => ?_⟩, by rw [hz]; omega, ⟨[], ⟨[], 0, ?_, rfl⟩, ⟨fun a => rfl, fun a s h => by cases h⟩⟩, ?_, ⟨_, ?_, .inl ⟨rfl, rfl, rfl⟩⟩, ?_, ?_, ⟨_, ?_, .inl ⟨rfl, rfl, rfl⟩⟩⟩ <;> rw [g]
  · rw [if_neg (by omega), if_neg (by omega), if_neg (by omega), if_neg (by omega), if_neg (by omega), if_neg (by omega)]
  · rw [if_neg (by omega), if_neg (by omega), if_neg (by omega), if_neg (by omega), if_neg (by omega), if_pos rfl]
  · rw [if_neg (by omega), if_neg (by omega), if_neg (by omega), if_neg (by omega), if_pos rfl]
  · rw [if_neg (by omega), if_neg (by omega), if_neg (by omega), if_pos rfl]
  · rw [if_neg (by omega), if_neg (by omega), if_pos rfl]
  · rw [if_neg (by omega), if_pos rfl]
  · rw [if_pos rfl]
/-- behind the first of the two -/
theorem Told2.mid {H0 H H2 : AHeap} {m M a : Int} {G : List Giv} {l : List (Int × Value)} {t : ByteArray} {v : Value} (hT : Told2 H0 m G H) (hx : H.get (H0.size + 2) = .cells [.int .i64 m, v] true 0) (ho : Own H 2 v G.length (gcells G)) (hl : MapIs ik H H0.size l)
    (h1 : Mapped H H2 (some H0.size) M l G t a) : Ext H0 H2 ∧ (H.size ≤ H2.size ∧ ∀ b, b < H.size → b ≠ H0.size → H2.get b = H.get b) ∧ H2.get (H0.size + 2) = .cells [.int .i64 m, v] true 0 ∧ Own H2 2 v G.length (gcells G) := by
  have sz := hT.size
  have k2 : H.size ≤ H2.size ∧ ∀ b, b < H.size → b ≠ H0.size → H2.get b = H.get b := by
    unfold Mapped at h1
    split at h1
    · obtain ⟨_, l', _, h | ⟨b, o, hb, rfl, _⟩⟩ := h1
      · exact ⟨h.2.size, fun b hb _ => h.2.get b hb⟩
      · injection hb with hb; subst hb
        exact ⟨by rw [AHeap.size_set]; exact Nat.le_refl _, fun b _ hne => AHeap.get_set_ne _ _ (Ne.symm hne)⟩
    · exact ⟨h1.size, fun b hb _ => h1.get b hb⟩
  refine ⟨⟨by omega, fun b hb => by rw [k2.2 b (by omega) (by omega)]; exact hT.ext.get b hb⟩, k2, by rw [k2.2 _ (by omega) (by omega)]; exact hx, ho.keep k2.1 fun b hb => k2.2 b (ho.sz hb).2 ?_⟩
  rintro rfl
  obtain ⟨es, clk, hm, _⟩ := hl
  have := (ho.sz hb).1
  rw [hm] at this; cases this
/-- both have been told -/
theorem Told2.next {H0 H H2 H3 : AHeap} {m a : Int} {G : List Giv} {l : List (Int × Value)} {t : ByteArray} {v r2 : Value} (hT : Told2 H0 m G H) (hl : MapIs ik H H0.size l) (hmg : MG l G) (hx : H.get (H0.size + 2) = .cells [.int .i64 m, v] true 0) (ho : Own H 2 v G.length (gcells G))
    (h1 : Mapped H H2 (some H0.size) (if (65535 : Int) < m then 65535 else m) l G t a) (h2 : RefQ H2 (H0.size + 2) m v G t a r2 H3) : ∃ G', Told2 H0 m G' H3 ∧ G'.length ≤ G.length + 1 := by
  obtain ⟨_, k2, _, _⟩ := hT.mid hx ho hl h1
  obtain ⟨e, sz, _, ta, _, tn, tl, ⟨w, z1, z2⟩⟩ := hT
  obtain ⟨but, good, bad⟩ := h2
  have s3 := but.size
  have k3 : ∀ b, b < H2.size → b ≠ H0.size + 2 → H3.get b = H2.get b := fun b hb hne => but.get b hb hne
  have k : ∀ b, b < H.size → b ≠ H0.size → b ≠ H0.size + 2 → H3.get b = H.get b := fun b hb h1 h2 => by rw [k3 b (by omega) h2, k2.2 b hb h1]
  have z3 : Own H3 2 w 0 [] := z2.keep (by omega) fun b hb => k b (z2.sz hb).2 (by rintro rfl; obtain ⟨es, clk, hm, _⟩ := hl; have := (z2.sz hb).1; rw [hm] at this; cases this) (by rintro rfl; exact z2.off hx (by omega) hb)
  have rest : ∀ {G' : List Giv} {l' : List (Int × Value)} {v' : Value}, MapIs ik H3 H0.size l' → MG l' G' → H3.get (H0.size + 2) = .cells [.int .i64 m, v'] true 0 → Own H3 2 v' G'.length (gcells G') → Told2 H0 m G' H3 := fun q1 q2 q3 q4 =>
    ⟨⟨by omega, fun b hb => by rw [k b (by omega) (by omega) (by omega)]; exact e.get b hb⟩, by omega, ⟨_, q1, q2⟩, by rw [k _ (by omega) (by omega) (by omega)]; exact ta, ⟨_, q3, q4⟩, by rw [k _ (by omega) (by omega) (by omega)]; exact tn, by rw [k _ (by omega) (by omega) (by omega)]; exact tl, ⟨w, by rw [k _ (by omega) (by omega) (by omega)]; exact z1, z3⟩⟩
  unfold Mapped at h1
  split at h1
  · rename_i s G' hg
    obtain ⟨hlen, l', hmg', h⟩ := h1
    obtain ⟨_, v', q3, q4, _⟩ := good _ _ hg
    refine ⟨G', rest ?_ hmg' q3 q4, hlen⟩
    rcases h with ⟨rfl, h⟩ | ⟨b, o, hb, _, hm⟩
    · exact hl.keep (by rw [k3 _ (by omega) (by omega)]; exact h.get _ (by omega))
    · injection hb with hb; subst hb
      exact hm.keep (k3 _ (by omega) (by omega))
  · rename_i c hg
    obtain ⟨_, q3, q4⟩ := bad _ hg
    exact ⟨G, rest (hl.keep (by rw [k3 _ (by omega) (by omega)]; exact h1.get _ (by omega))) hmg q3 q4, by omega⟩
/-- the one that nobody has made anything of, in the document -/
theorem Told2.none {H0 H H2 : AHeap} {m a : Int} {G : List Giv} {t : ByteArray} {w r : Value} (hT : Told2 H0 m G H) (hz : H.get (H0.size + 5) = .cells [.int .i64 0, w] true 0) (h2 : RefQ H (H0.size + 5) 0 w [] t a r H2) : Told2 H0 m G H2 := by
  obtain ⟨e, sz, ⟨l, m1, m2⟩, ta, ⟨v, x1, x2⟩, tn, tl, _⟩ := hT
  obtain ⟨but, good, bad⟩ := h2
  have s3 := but.size
  have k3 : ∀ b, b < H.size → b ≠ H0.size + 5 → H2.get b = H.get b := fun b hb hne => but.get b hb hne
  have hM : (if (65535 : Int) < 0 then (65535 : Int) else 0) = 0 := rfl
  have hw : ∃ w', H2.get (H0.size + 5) = .cells [.int .i64 0, w'] true 0 ∧ Own H2 2 w' 0 [] := by
    cases hg : gF 0 [] t a with
    | inl q =>
      obtain ⟨s, G'⟩ := q
      obtain ⟨_, w', q1, q2, _⟩ := good s G' (by rw [hM]; exact hg)
      obtain ⟨_, _, _, _, h4⟩ := topic_good (l := []) ⟨fun a => rfl, fun a s h => by cases h⟩ hg
      obtain rfl := h4 (by omega)
      exact ⟨w', q1, q2⟩
    | inr c =>
      obtain ⟨_, q1, q2⟩ := bad c (by rw [hM]; exact hg)
      exact ⟨w, q1, q2⟩
  exact ⟨⟨by omega, fun b hb => by rw [k3 b (by omega) (by omega)]; exact e.get b hb⟩, by omega, ⟨l, m1.keep (k3 _ (by omega) (by omega)), m2⟩, by rw [k3 _ (by omega) (by omega)]; exact ta, ⟨v, by rw [k3 _ (by omega) (by omega)]; exact x1, x2.keep (by omega) fun b hb => k3 b (x2.sz hb).2 (by rintro rfl; exact x2.off hz (by omega) hb)⟩, by rw [k3 _ (by omega) (by omega)]; exact tn, by rw [k3 _ (by omega) (by omega)]; exact tl, hw⟩
end Go.Proofs.YtlmcjfnignbdoaaDoor.AbsB
