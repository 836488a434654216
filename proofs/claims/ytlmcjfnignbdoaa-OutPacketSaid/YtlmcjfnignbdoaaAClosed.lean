/-
  A call that needs nothing of what there is: it is worked out once, from an empty heap.
-/
import Derived.Test.YtlmcjfnignbdoaaALaw
namespace AbsYtlmcjfnignbdoaa
set_option linter.unusedVariables false
set_option linter.unusedSimpArgs false
set_option linter.unusedSectionVars false
open Go

theorem Rel.later {E : Env} {ι : Emb} {H : AHeap} {w w' : World} (h : Rel E ι H w) (hs : w.heap.size ≤ w'.heap.size) (hh : ∀ B, B < w.heap.size → w'.heap[B]? = w.heap[B]?) : Rel E ι H w' where
  dom b l hb := Nat.lt_of_lt_of_le (h.dom b l hb) hs
  cells b l cs wr sz hb hg := by
    obtain ⟨C, ty, fz, h1, h2⟩ := h.cells b l cs wr sz hb hg
    exact ⟨C, ty, fz, by rw [hh _ (h.dom b l hb)]; exact h1, h2⟩
  maps b l es clk hb hg := by
    obtain ⟨es', h1, h2⟩ := h.maps b l es clk hb hg
    exact ⟨es', by rw [hh _ (h.dom b l hb)]; exact h1, h2⟩
  inj := h.inj
  glob := h.glob
theorem Rel.env {E E' : Env} {ι : Emb} {H : AHeap} {w : World} (h : Rel E ι H w) (hn : E'.ng = E.ng) : Rel E' ι H w := ⟨h.dom, h.cells, h.maps, h.inj, fun g hg => h.glob g (by rw [← hn]; exact hg)⟩

theorem RV.closed_eq {ι : Emb} {r r' : Value} (h : RV ι r r') (hc : closedV r = true) : r' = r := by
  cases h <;> first | rfl | simp [closedV] at hc
/-- a function without arguments, what it gives back holding no address -/
theorem closed_sim {E E' : Env} (hE : EnvOk E) (hng : E.ng = 0) (hP : E'.P = E.P) (hng' : E'.ng = 0) {f k : Nat} {r : Value} {H1 : AHeap} (hr : callF E (exec E k) f [] .empty = some (r, H1)) (hcl : closedV r = true) (H : AHeap) : CallSim E' f [] H r H := by
  intro ι w args' hR hD hargs
  cases hargs
  have L0 : Rel E (fun _ => none) .empty w := ⟨fun _ _ h => (by cases h), fun _ _ _ _ _ h => (by cases h), fun _ _ _ _ h => (by cases h), fun _ _ _ _ h => (by cases h), fun g hg => (by rw [hng] at hg; omega)⟩
  have post : ∀ {e : Ending} {w' : World}, CallPost E (fun _ => none) .empty w r H1 e w' → CallPost E' ι H w r H e w' := by
    rintro e w' ⟨r', ι', rfl, hv, _, hS⟩
    have hh : ∀ B, B < w.heap.size → w'.heap[B]? = w.heap[B]? := fun B hB => hS.frame B hB fun b l hb => by cases hb
    obtain rfl := hv.closed_eq hcl
    refine ⟨r', ι, rfl, RV.closed hcl, hR.later hS.size hh, ?_⟩
    exact ⟨Emb.le.refl ι, fun b l h h' => (by rw [h] at h'; cases h'), Nat.le_refl _, fun b l h hw => .inr ⟨b, l, h, rfl, hw⟩, fun b l h h' => (by rw [h] at h'; cases h'), fun _ _ h => h, hS.os, hS.tape, hS.output, hS.size,
      fun B hB _ => hh B hB, fun _ _ _ => rfl⟩
  have := (call_ok hE k).sim f [] .empty r H1 hr (fun _ => none) w [] L0 (fun _ _ h => by cases h) .nil
  rw [hP]
  rcases this with ⟨h1, h2⟩ | ⟨r', w', h1, h2⟩
  · exact .inl ⟨h1, h2.mono fun e w' h => post h⟩
  · exact .inr ⟨r', w', h1, post h2⟩

/-- an environment with calls that are worked out -/
def Env.worked (E : Env) (fs : List (Nat × Value)) : Env := { E with sp := fun f => match fs.find? (fun p => Nat.beq p.1 f) with
  | some p => some fun args H => if args.isEmpty then some (p.2, H) else none
  | none => E.sp f }
/-- with calls that are worked out -/
theorem EnvOk.with {E : Env} (hE : EnvOk E) (hng : E.ng = 0) (fs : List (Nat × Value)) (hfs : ∀ p ∈ fs, closedV p.2 = true ∧ ∃ k H1, callF E (exec E k) p.1 [] .empty = some (p.2, H1)) :
    EnvOk (E.worked fs) where
  ty := ⟨hE.ty.ty⟩
  fn f F h := by
    obtain ⟨h1, h2, h3⟩ := hE.fn f F h
    exact ⟨h1, h2, h3⟩
  mixed := hE.mixed
  sp f g args H r H' hg h := by
    simp only [Env.worked] at hg
    split at hg
    · rename_i p hp
      injection hg with hg
      subst hg
      have h : (if args.isEmpty then some (p.2, H) else none) = some (r, H') := h
      split at h
      · rename_i ha
        injection h with h; injection h with e1 e2; subst e1; subst e2
        have hm := List.mem_of_find?_eq_some hp
        have hf : p.1 = f := Nat.eq_of_beq_eq_true (by simpa using List.find?_some hp)
        obtain ⟨hcl, k, H1, hr⟩ := hfs p hm
        have : args = [] := List.isEmpty_iff.1 ha
        subst this; subst hf
        exact ⟨Nat.le_refl _, closed_sim (E' := E.worked fs) hE hng rfl hng hr hcl H⟩
      · cases h
    · obtain ⟨h1, h2⟩ := hE.sp f g args H r H' hg h
      refine ⟨h1, fun ι w args' hR hD hargs => ?_⟩
      rcases h2 ι w args' (hR.env rfl) hD hargs with ⟨h3, h4⟩ | ⟨r', w', h3, v', ι', h4, h5, h6, h7⟩
      · exact .inl ⟨h3, h4.mono fun e w' ⟨v', ι', a1, a2, a3, a4⟩ => ⟨v', ι', a1, a2, a3.env rfl, a4⟩⟩
      · exact .inr ⟨r', w', h3, v', ι', h4, h5, h6.env rfl, h7⟩

end AbsYtlmcjfnignbdoaa
