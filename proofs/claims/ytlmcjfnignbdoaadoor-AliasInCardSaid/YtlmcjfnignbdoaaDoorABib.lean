/-
  A part of a law's proof.
-/
import Derived.Test.YtlmcjfnignbdoaaDoorABia
namespace Go.Proofs.YtlmcjfnignbdoaaDoor.AbsB
open Go AbsYtlmcjfnignbdoaaDoor Abs
set_option maxRecDepth 100000
set_option maxHeartbeats 2000000
set_option linter.unusedSimpArgs false
set_option linter.unusedVariables false
abbrev Giv := Int × ByteArray
def gcells (G : List Giv) : List Value := G.flatMap fun p => [.int .i64 p.1, .string p.2]
theorem gcells_len (G : List Giv) : (gcells G).length = G.length * 2 := by
  induction G with
  | nil => rfl
  | cons p G ih => simp only [gcells, List.flatMap_cons, List.length_append, List.length_cons, List.length_nil] at ih ⊢; omega
theorem gcells_at {G : List Giv} {i : Nat} (h : i < G.length) : (gcells G)[i * 2]? = some (.int .i64 (G[i]).1) ∧ (gcells G)[i * 2 + 1]? = some (.string (G[i]).2) := by
  induction G generalizing i with
  | nil => simp at h
  | cons p G ih =>
    cases i with
    | zero => exact ⟨rfl, rfl⟩
    | succ i =>
      have := ih (i := i) (by simpa using h)
      have e : gcells (p :: G) = .int .i64 p.1 :: .string p.2 :: gcells G := rfl
      rw [e, show (i + 1) * 2 = i * 2 + 1 + 1 by omega]
      simp only [List.getElem?_cons_succ, List.getElem_cons_succ]
      exact this
theorem gcells_one (G : List Giv) : (gcells G).all oneCell = true := by
  induction G with
  | nil => rfl
  | cons p G ih =>
    have e : gcells (p :: G) = .int .i64 p.1 :: .string p.2 :: gcells G := rfl
    rw [e, List.all_cons, List.all_cons, ih]; rfl
def findG : List Giv → Int → Option ByteArray
  | [], _ => none
  | p :: G, a => if p.1 = a then some p.2 else findG G a
def gF (M : Int) (G : List Giv) (t : ByteArray) (a : Int) : (ByteArray × List Giv) ⊕ Int :=
  if a ≠ 0 ∧ ¬ (1 ≤ a ∧ a ≤ M) then .inr 148
  else if t = emp then (match (if a = 0 then none else findG G a) with
    | some s => .inl (s, G)
    | none => .inr 130)
  else .inl (t, if a = 0 then G else (a, t) :: G)
theorem zero66 : azero E 66 = some [.int .i64 0, .int .i64 0, .int .i64 0] := rfl
theorem ld66 {H : AHeap} {b : Nat} {x y z : Value} {wr : Bool} {sz : Nat} (hg : H.get b = .cells [x, y, z] wr sz) : aload E H 66 (.pointer (some ⟨b, 0, none⟩)) = some (.agg #[x, y, z]) := ld_agg ty66 rfl hg (Nat.le_refl _)
theorem st66 {H : AHeap} {b : Nat} {x y z x' y' z' : Value} (hg : H.get b = .cells [x', y', z'] true 0) (h1 : oneCell x = true) (h2 : oneCell y = true) (h3 : oneCell z = true) : astore E H 66 (.pointer (some ⟨b, 0, none⟩)) (.agg #[x, y, z]) = some (H.set b (.cells [x, y, z] true 0)) := by
  simp [astore, ty66, astoreAt, hg, vcells, splice, h1, h2, h3]
theorem bd66 : abuild E 66 [] = some (.agg #[.int .i64 0, .int .i64 0, .int .i64 0]) := by kernel_rfl
theorem bd66a : abuild E 66 [(0, .int .i64 3), (1, .int .i64 148)] = some (.agg #[.int .i64 3, .int .i64 148, .int .i64 0]) := by kernel_rfl
theorem bd66b : abuild E 66 [(0, .int .i64 3), (1, .int .i64 130)] = some (.agg #[.int .i64 3, .int .i64 130, .int .i64 0]) := by kernel_rfl
theorem bd90 {a : Int} {t : ByteArray} : abuild E 90 [(0, .int .i64 a), (1, .string t)] = some (.agg #[.int .i64 a, .string t]) := by kernel_rfl
theorem bs58 {H : AHeap} {a : Int} {t : ByteArray} : abuildSlice E H 58 1 [(0, .agg #[.int .i64 a, .string t])] = some (.slice (some ⟨H.size, 0, some 1⟩) 1 1, H.alloc (.cells [.int .i64 a, .string t] true 2)) := by
  simp [abuildSlice, ty58, ty90, azero, lfill, reps, splice, vcells, ZV.val]
/-- a slice put behind another one of one element -/
theorem append58 {H : AHeap} {b : Nat} {v : Value} {c0 : List Value} {G : List Giv} (hb : H.get b = .cells c0 true 2) (hc : c0.length = 2) (hbs : b < H.size) (ho : Own H 2 v G.length (gcells G)) (hG : G.length ≤ 1000) :
    ∃ r H', abuiltin E H .append [58, 58] [.slice (some ⟨b, 0, none⟩) 1 1, v] = some (r, H') ∧ Own H' 2 r (1 + G.length) (c0 ++ gcells G) ∧ H.size ≤ H'.size ∧ (∀ c, c < H.size → c ≠ b → H'.get c = H.get c) ∧ ∀ c ∈ blkOf r, c = b ∨ H.size ≤ c := by
  have hz : azero E 90 = some [.int .i64 0, .string ⟨#[]⟩] := rfl
  have hgl := gcells_len G
  have hsrc : srcCells H 2 v = some (G.length, gcells G) := by
    rcases ho with ⟨rfl, h0, h1⟩ | ⟨b', rfl, h1, h2, h3⟩
    · rw [h0, h1]; rfl
    · simp only [srcCells, takeCells, h1]
      rw [if_pos (by omega)]
      simp [List.take_of_length_le (Nat.le_of_eq hgl)]
  by_cases h0 : G.length = 0
  · have hG0 : G = [] := List.eq_nil_of_length_eq_zero h0
    subst hG0
    refine ⟨.slice (some ⟨b, 0, none⟩) 1 1, H, ?_, .inr ⟨b, rfl, ?_, ?_, hbs⟩, Nat.le_refl _, fun _ _ _ => rfl, fun c hc => .inl (by simpa [blkOf] using hc)⟩
    · simp only [abuiltin, aappend, ty58, ty90, hz, hsrc]
      simp [hb, TK.isInt]
    · rw [hb]; simp [gcells]
    · simp [gcells, hc]
  · refine ⟨.slice (some ⟨H.size, 0, none⟩) (1 + G.length) (1 + G.length), (H.set b .dead).alloc (.cells (c0 ++ gcells G) true 2), ?_, .inr ⟨H.size, rfl, AHeap.get_alloc_same (H.set b .dead) _, by rw [List.length_append, hc, hgl]; omega, by simp [AHeap.size_alloc, AHeap.size_set]⟩, by rw [AHeap.size_alloc, AHeap.size_set]; omega, fun c hc' hne => ?_, fun c hc' => .inr (by simp [blkOf] at hc'; omega)⟩
    · have h1 : ¬ (1 + G.length ≤ 1) := by omega
      have h2 : (1 + G.length) * 24 ≤ 140737488355328 := by omega
      simp only [abuiltin, aappend, ty58, ty90, hz, hsrc]
      simp [hb, TK.isInt, h0, h1, h2, hc, gcells_one]
    · rw [AHeap.get_alloc_ne _ _ (by rw [AHeap.size_set]; omega)]
      exact AHeap.get_set_ne _ _ (Ne.symm hne)
/-- what a call of the document's Topic leaves -/
structure RefQ (H : AHeap) (bx : Nat) (m : Int) (v : Value) (G : List Giv) (t : ByteArray) (a : Int) (r : Value) (H' : AHeap) : Prop where
  but : But (fun b => b = bx) H H'
  good : ∀ s G', gF (if (65535 : Int) < m then 65535 else m) G t a = .inl (s, G') → r = .tuple #[.string s, .agg #[.int .i64 0, .int .i64 0, .int .i64 0]] ∧
    ∃ v', H'.get bx = .cells [.int .i64 m, v'] true 0 ∧ Own H' 2 v' G'.length (gcells G') ∧ ∀ b ∈ blkOf v', b ∈ blkOf v ∨ H.size ≤ b
  bad : ∀ c, gF (if (65535 : Int) < m then 65535 else m) G t a = .inr c → r = .tuple #[.string emp, .agg #[.int .i64 3, .int .i64 c, .int .i64 0]] ∧ H'.get bx = .cells [.int .i64 m, v] true 0 ∧ Own H' 2 v G.length (gcells G)
end Go.Proofs.YtlmcjfnignbdoaaDoor.AbsB
