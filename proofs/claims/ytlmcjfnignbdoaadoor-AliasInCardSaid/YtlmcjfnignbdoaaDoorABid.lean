/-
  A part of a law's proof.
-/
import Derived.Test.YtlmcjfnignbdoaaDoorABic
namespace Go.Proofs.YtlmcjfnignbdoaaDoor.AbsB
open Go AbsYtlmcjfnignbdoaaDoor Abs
set_option maxRecDepth 100000
set_option maxHeartbeats 2000000
set_option linter.unusedSimpArgs false
set_option linter.unusedVariables false
/-- the map and the list say the same -/
structure MG (l : List (Int × Value)) (G : List Giv) : Prop where
  look : ∀ a, lkp l a = (findG G a).map fun s => Value.string s
  full : ∀ a s, findG G a = some s → s ≠ emp
theorem MG.strs {l : List (Int × Value)} {G : List Giv} (h : MG l G) : ∀ k v, lkp l k = some v → ∃ s, v = .string s := fun k v hk => by
  rw [h.look] at hk
  cases hf : findG G k with
  | none => rw [hf] at hk; cases hk
  | some s => rw [hf] at hk; injection hk with hk; exact ⟨s, hk.symm⟩
theorem topic_bad {M : Int} {l : List (Int × Value)} {G : List Giv} {t : ByteArray} {a c : Int} (h : MG l G) (hg : gF M G t a = .inr c) : topicF M l t a = .inr c := by
  unfold gF at hg; unfold topicF
  by_cases h0 : a = 0
  · rw [if_pos h0]
    rw [if_neg (by omega)] at hg
    by_cases he : t = emp
    · rw [if_pos he] at hg ⊢
      rw [if_pos h0] at hg
      injection hg with hg; subst hg; rfl
    · rw [if_neg he] at hg; cases hg
  · rw [if_neg h0]
    by_cases hok : 1 ≤ a ∧ a ≤ M
    · rw [if_pos hok]
      rw [if_neg (fun x => x.2 hok)] at hg
      by_cases he : t = emp
      · rw [if_pos he] at hg ⊢
        rw [if_neg h0] at hg
        rw [h.look]
        cases hf : findG G a with
        | none => rw [hf] at hg; injection hg with hg; subst hg; rfl
        | some s => rw [hf] at hg; cases hg
      · rw [if_neg he] at hg; cases hg
    · rw [if_neg hok]
      rw [if_pos ⟨h0, hok⟩] at hg
      injection hg with hg; subst hg; rfl
theorem topic_good {M : Int} {l : List (Int × Value)} {G G' : List Giv} {t s : ByteArray} {a : Int} (h : MG l G) (hg : gF M G t a = .inl (s, G')) : ∃ l', topicF M l t a = .inl (s, l') ∧ MG l' G' ∧ G'.length ≤ G.length + 1 ∧ (M < 1 → G' = G) := by
  unfold gF at hg; unfold topicF
  by_cases h0 : a = 0
  · rw [if_pos h0]
    rw [if_neg (by omega)] at hg
    by_cases he : t = emp
    · rw [if_pos he, if_pos h0] at hg; cases hg
    · rw [if_neg he] at hg ⊢
      rw [if_pos h0] at hg
      injection hg with hg; injection hg with e1 e2; subst e1; subst e2
      exact ⟨l, rfl, h, by omega, fun _ => rfl⟩
  · rw [if_neg h0]
    by_cases hok : 1 ≤ a ∧ a ≤ M
    · rw [if_pos hok]
      rw [if_neg (fun x => x.2 hok)] at hg
      by_cases he : t = emp
      · rw [if_pos he] at hg ⊢
        rw [if_neg h0] at hg
        rw [h.look]
        cases hf : findG G a with
        | none => rw [hf] at hg; cases hg
        | some s' =>
          rw [hf] at hg
          injection hg with hg; injection hg with e1 e2; subst e1; subst e2
          exact ⟨l, by simp only [Option.map_some]; rw [if_neg (h.full _ _ hf)], h, by omega, fun _ => rfl⟩
      · rw [if_neg he] at hg ⊢
        rw [if_neg h0] at hg
        injection hg with hg; injection hg with e1 e2; subst e1; subst e2
        refine ⟨_, rfl, ⟨fun b => ?_, fun b s hb => ?_⟩, by simp, fun hM => by omega⟩
        · rw [lkp_put, findG]
          by_cases hb : b = a
          · rw [if_pos hb, if_pos hb.symm]; rfl
          · rw [if_neg hb, if_neg (Ne.symm hb)]; exact h.look b
        · rw [findG] at hb
          split at hb
          · injection hb with hb; rw [← hb]; exact he
          · exact h.full b s hb
    · rw [if_pos ⟨h0, hok⟩] at hg; cases hg
/-- what an error tells -/
def OutD (K : AHeap) (e : Value) (num rs : Int) : Prop := (e = .nilIface ∧ num = 0 ∧ rs = 0) ∨ (num = 3 ∧ Fault K e rs 0 2)
theorem OutD.ext {K K' : AHeap} {e : Value} {n r : Int} (h : OutD K e n r) (x : Ext K K') : OutD K' e n r := by
  rcases h with h | ⟨h1, h2⟩
  · exact .inl h
  · exact .inr ⟨h1, h2.ext x⟩
theorem OutD.but {K K' : AHeap} {e p q : Value} {n r : Int} {x : Nat} {wr : Bool} (h : OutD K e n r) (b : But (fun c => c = x) K K') (hx : K.get x = .cells [p, q] wr 0) : OutD K' e n r := by
  rcases h with h | ⟨h1, b', w', h2, h3, h4⟩
  · exact .inl h
  · refine .inr ⟨h1, b', w', h2, Nat.lt_of_lt_of_le h3 b.size, ?_⟩
    rw [b.get b' h3 (by rintro rfl; rw [hx] at h4; injection h4 with h4; simp at h4)]
    exact h4
theorem OutD.n {J : AHeap} {e : Value} {num rs : Int} (hB : Ext B J) (h : OutD J e num rs) : CallW E 23 [e] J fun r J' => r = .int .i64 num ∧ Ext J J' := by
  rcases h with ⟨rfl, rfl, rfl⟩ | ⟨rfl, h⟩
  · exact spec23nil.mono fun r J' h => ⟨h.1, by rw [h.2]; exact Ext.refl _⟩
  · exact (spec23 hB h (by omega)).mono fun r J' h => ⟨h.1, h.2⟩
theorem OutD.r {J : AHeap} {e : Value} {num rs : Int} (hB : Ext B J) (h : OutD J e num rs) : CallW E 24 [e] J fun r J' => r = .int .i64 rs ∧ Ext J J' := by
  rcases h with ⟨rfl, rfl, rfl⟩ | ⟨rfl, h⟩
  · exact spec24nil.mono fun r J' h => ⟨h.1, by rw [h.2]; exact Ext.refl _⟩
  · exact spec24 hB h
theorem OutD.a {J : AHeap} {e : Value} {num rs : Int} (hB : Ext B J) (h : OutD J e num rs) : CallW E 25 [e] J fun r J' => r = .int .i64 0 ∧ Ext J J' := by
  rcases h with ⟨rfl, rfl, rfl⟩ | ⟨rfl, h⟩
  · exact spec25nil
  · exact spec25 hB h
/-- what is told: a topic, the error's number, its reason -/
def outF (M : Int) (G : List Giv) (t : ByteArray) (a : Int) : ByteArray × Int × Int := match gF M G t a with
  | .inl (s, _) => (s, 0, 0)
  | .inr c => (emp, 3, c)
/-- what the map has become -/
def Mapped (H H' : AHeap) (rm : Option Nat) (M : Int) (l : List (Int × Value)) (G : List Giv) (t : ByteArray) (a : Int) : Prop := match gF M G t a with
  | .inl (_, G') => G'.length ≤ G.length + 1 ∧ ∃ l', MG l' G' ∧ (l' = l ∧ Ext H H' ∨ ∃ b o, rm = some b ∧ H' = H.set b o ∧ MapIs ik H' b l')
  | .inr _ => Ext H H'
/-- what the first Topic gives -/
theorem topic_out {H H' : AHeap} {rm : Option Nat} {M a : Int} {l : List (Int × Value)} {G : List Giv} {t : ByteArray} {r : Value} (hB : Ext B H) (h : TopicQ H rm M l t a r H') (hm : MG l G) :
    ∃ e, r = .tuple #[.string (outF M G t a).1, e] ∧ OutD H' e (outF M G t a).2.1 (outF M G t a).2.2 ∧ Mapped H H' rm M l G t a := by
  unfold outF Mapped
  cases hg : gF M G t a with
  | inl q =>
    obtain ⟨s, G'⟩ := q
    obtain ⟨l', h1, h2, h3, h4⟩ := topic_good hm hg
    obtain ⟨h5, h6⟩ := h.good _ _ h1
    exact ⟨.nilIface, h5, .inl ⟨rfl, rfl, rfl⟩, h3, l', h2, h6⟩
  | inr c =>
    obtain ⟨e, h1, h2, h3⟩ := h.bad c (topic_bad hm hg)
    exact ⟨e, h1, .inr ⟨rfl, h3⟩, h2⟩
/-- what the document's Topic gives -/
theorem ref_out {H H' : AHeap} {bx : Nat} {m a : Int} {v : Value} {G : List Giv} {t : ByteArray} {r : Value} (h : RefQ H bx m v G t a r H') {M : Int} (hM : (if (65535 : Int) < m then 65535 else m) = M) :
    r = .tuple #[.string (outF M G t a).1, .agg #[.int .i64 (outF M G t a).2.1, .int .i64 (outF M G t a).2.2, .int .i64 0]] := by
  subst hM
  unfold outF
  cases hg : gF (if (65535 : Int) < m then 65535 else m) G t a with
  | inl q => obtain ⟨s, G'⟩ := q; exact (h.good _ _ hg).1
  | inr c => exact (h.bad _ hg).1
theorem typed_ints {H : AHeap} {d : Nat} {xs : List Value} (h : Typed E H d 56 xs) : ∃ (v : Value) (n : Nat) (cs : List Value), xs = [v] ∧ SliceAt H 1 v n cs ∧ ∀ i, i < n → ∃ a, cs[i]? = some (.int .i64 a) := by
  cases d with
  | zero => exact h.elim
  | succ d =>
    simp only [Typed, ty56] at h
    rcases h with rfl | ⟨b, n, j, cs, e, rfl, hb, hg, hl, hk⟩
    · exact ⟨_, 0, [], rfl, SliceAt.nil, fun i hi => by omega⟩
    · rw [ty3] at e
      cases e
      refine ⟨_, n, cs, rfl, ⟨by simpa using hl, .inr ⟨b, 0, n, none, cs, false, rfl, hg, by simp at hl ⊢; omega, by simp at hl; simp [List.take_of_length_le (Nat.le_of_eq hl)], hb⟩⟩, fun i hi => ?_⟩
      obtain ⟨a, k0, _⟩ := typed_int (hk i hi)
      refine ⟨a, ?_⟩
      have := congrArg (fun l => l[0]?) k0
      simpa [List.getElem?_take, List.getElem?_drop] using this
end Go.Proofs.YtlmcjfnignbdoaaDoor.AbsB
