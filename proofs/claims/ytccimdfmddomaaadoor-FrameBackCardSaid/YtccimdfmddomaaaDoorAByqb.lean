/-
  A part of a law's proof.
-/
import Derived.Test.YtccimdfmddomaaaDoorAErqd
namespace Go.Proofs.YtccimdfmddomaaaDoor.AbsA
open Go AbsYtccimdfmddomaaaDoor Abs
set_option maxRecDepth 100000
set_option maxHeartbeats 4000000
set_option linter.unusedSimpArgs false
set_option linter.unusedVariables false
theorem bytesOf_len (w : ByteArray) : (bytesOf w).length = w.size := by
  show (w.data.toList.map _).length = w.data.size
  rw [List.length_map, Array.length_toList]
theorem bytesOf_app (a b : ByteArray) : bytesOf (a ++ b) = bytesOf a ++ bytesOf b := by simp [bytesOf, ByteArray.data_append]
theorem bytesOf_str {l : List Nat} (h : ∀ n ∈ l, n < 256) : bytesOf (str l) = u8s l := by
  simp only [bytesOf, str, u8s, List.map_map]
  apply List.map_congr_left
  intro n hn
  have := h n hn
  simp only [Function.comp, UInt8.toNat_ofNat']
  congr 2
  omega
theorem bytesOf_mapM (w : ByteArray) : (bytesOf w).mapM byteOfV = some w.data.toList := by
  have : ∀ l : List UInt8, (l.map fun b : UInt8 => Value.int .u8 (b.toNat : Int)).mapM byteOfV = some l := by
    intro l
    induction l with
    | nil => rfl
    | cons b l ih => rw [List.map_cons, List.mapM_cons, ih]; simp [byteOfV]
  exact this _
theorem oc_bytes (w : ByteArray) : (bytesOf w).all oneCell = true := by
  rw [List.all_eq_true]
  intro v hv
  simp only [bytesOf, List.mem_map] at hv
  obtain ⟨b, _, rfl⟩ := hv
  rfl
theorem size_app (a b : ByteArray) : (a ++ b).size = a.size + b.size := ByteArray.size_append
/-- what lies elsewhere stays, and what is new was not there -/
structure Kept (σ : AHeap) (fp : List Nat) (σ' : AHeap) (fp' : List Nat) : Prop where
  get : ∀ b, σ.get b ≠ .dead → b ∉ fp → σ'.get b = σ.get b
  new : ∀ b, b ∈ fp' → b ∈ fp ∨ σ.get b = .dead
theorem Kept.refl (σ : AHeap) (fp : List Nat) : Kept σ fp σ fp := ⟨fun _ _ _ => rfl, fun _ h => .inl h⟩
theorem Kept.trans {σ σ' σ'' : AHeap} {fp fp' fp'' : List Nat} (h : Kept σ fp σ' fp') (k : Kept σ' fp' σ'' fp'') : Kept σ fp σ'' fp'' where
  get b hb hn := by
    have h1 := h.get b hb hn
    rw [k.get b (by rw [h1]; exact hb) (fun hm => by rcases h.new b hm with h2 | h2; exact hn h2; exact hb h2), h1]
  new b hb := by
    rcases k.new b hb with h1 | h1
    · exact h.new b h1
    · by_cases hd : σ.get b = .dead
      · exact .inr hd
      · by_cases hn : b ∈ fp
        · exact .inl hn
        · rw [h.get b hd hn] at h1; exact .inr h1
theorem Kept.at {σ σ' : AHeap} {fp fp' : List Nat} (h : Kept σ fp σ' fp') {b : Nat} {o : AObj} (hg : σ.get b = o) (ho : o ≠ .dead) (hn : b ∉ fp) : σ'.get b = o ∧ b ∉ fp' :=
  ⟨by rw [h.get b (by rw [hg]; exact ho) hn, hg], fun hm => by rcases h.new b hm with h2 | h2; exact hn h2; rw [h2] at hg; exact ho hg.symm⟩
/-- with more blocks -/
theorem Kept.more {σ σ' : AHeap} {fp fp' l : List Nat} (h : Kept σ fp σ' fp') : Kept σ (l ++ fp) σ' (l ++ fp') where
  get b hb hn := h.get b hb (fun hm => hn (List.mem_append_right _ hm))
  new b hb := by
    rcases List.mem_append.1 hb with h1 | h1
    · exact .inl (List.mem_append_left _ h1)
    · rcases h.new b h1 with h2 | h2
      · exact .inl (List.mem_append_right _ h2)
      · exact .inr h2
theorem Kept.set {σ : AHeap} {fp : List Nat} {b : Nat} {o : AObj} (hb : b ∈ fp) : Kept σ fp (σ.set b o) fp :=
  ⟨fun c _ hn => AHeap.get_set_ne _ _ (by rintro rfl; exact hn hb), fun _ h => .inl h⟩
theorem Kept.new' {σ : AHeap} {b : Nat} {o : AObj} (hb : σ.get b = .dead) : Kept σ [] (σ.set b o) [b] :=
  ⟨fun c hc _ => AHeap.get_set_ne _ _ (by rintro rfl; exact hc hb), fun c hc => by obtain rfl := List.mem_singleton.1 hc; exact .inr hb⟩
/-- bytes in a slice that may grow, and where they lie -/
def BS (σ : AHeap) (v : Value) (a : ByteArray) (fp : List Nat) : Prop :=
  (a.size = 0 ∧ v = .slice none 0 0 ∧ fp = []) ∨ ∃ d, v = .slice (some ⟨d, 0, none⟩) a.size a.size ∧ σ.get d = .cells (bytesOf a) true 1 ∧ fp = [d] ∧ 0 < a.size
theorem BS.kept {σ σ' : AHeap} {v : Value} {a : ByteArray} {fp gp gp' : List Nat} (h : BS σ v a fp) (k : Kept σ gp σ' gp') (hd : ∀ b ∈ fp, b ∉ gp) : BS σ' v a fp := by
  rcases h with h | ⟨d, h1, h2, h3, h4⟩
  · exact .inl h
  · exact .inr ⟨d, h1, by rw [k.get d (by rw [h2]; simp) (hd d (by rw [h3]; simp))]; exact h2, h3, h4⟩
theorem BS.set {σ : AHeap} {v : Value} {a : ByteArray} {fp : List Nat} (h : BS σ v a fp) {w : Nat} {o : AObj} (hw : w ∉ fp) : BS (σ.set w o) v a fp :=
  h.kept (Kept.set (fp := [w]) (by simp)) fun b hb hm => hw (by obtain rfl := List.mem_singleton.1 hm; exact hb)
theorem get_resize {σ : AHeap} {n b : Nat} : (σ.resize n).get b = σ.get b := rfl
theorem app_bytes {σ : AHeap} {K : Value → AHeap → Prop} {v x : Value} {a m : ByteArray} {fp : List Nat} {u : Nat} (hv : BS σ v a fp) (hx : ∀ b, srcCells (σ.resize b) 1 x = some (m.size, bytesOf m)) (hu : u = 9 ∨ u = 70)
    (hz : a.size + m.size ≤ 100000000) (hq : ∀ σ' v' fp', Kept σ fp σ' fp' → BS σ' v' (a ++ m) fp' → K v' σ') :
    afterOpS E B (some (.any fun b => aappend E (σ.resize b) [70, u] [v, x])) σ K := by
  intro b hb
  have hbd : σ.get b = .dead := by
    rcases hg : σ.get b with _ | _ | _
    · rfl
    · exact absurd (hb b (by rw [hg]; simp)) (Nat.lt_irrefl _)
    · exact absurd (hb b (by rw [hg]; simp)) (Nat.lt_irrefl _)
  have hz5 : azero E 5 = some [.int .u8 0] := rfl
  have hiu : ∃ iu, E.ty.get u = some iu ∧ iu.k.isInt = false := by rcases hu with rfl | rfl <;> exact ⟨_, rfl, rfl⟩
  obtain ⟨iu, hiu, hki⟩ := hiu
  have hnew := oc_bytes m
  rcases hv with ⟨h1, rfl, rfl⟩ | ⟨d, rfl, hd, rfl, ha⟩
  · have e0 : bytesOf a = [] := List.eq_nil_of_length_eq_zero (by rw [bytesOf_len, h1])
    by_cases hm : m.size = 0
    · refine ⟨.slice none 0 0, σ.resize b, ?_, hq _ _ [] ⟨fun c _ _ => rfl, fun _ h => by cases h⟩ (.inl ⟨by rw [size_app]; omega, rfl, rfl⟩)⟩
      simp only [aappend, ty70, ty5, hiu, hz5, hx b, hki, hm]
      rfl
    · refine ⟨.slice (some ⟨b, 0, none⟩) m.size m.size, (σ.resize b).alloc (.cells (bytesOf m) true 1), ?_, hq _ _ [b] ?_ (.inr ⟨b, ?_, ?_, rfl, by rw [size_app]; omega⟩)⟩
      · simp only [aappend, ty70, ty5, hiu, hz5, hx b, hki]
        have c1 : m.size * 1 ≤ 140737488355328 := by omega
        simp only [hm, hnew, c1, dpB, decide_true, Bool.and_self, if_true, if_false, Bool.false_eq_true]
        rfl
      · exact ⟨fun c hc _ => AHeap.get_alloc_ne _ _ (by intro e; subst e; exact hc hbd), fun c hc => by obtain rfl := List.mem_singleton.1 hc; exact .inr hbd⟩
      · rw [size_app, h1, Nat.zero_add]
      · rw [bytesOf_app, e0, List.nil_append]; exact AHeap.get_alloc_same (σ.resize b) _
  · by_cases hm : m.size = 0
    · have e0 : bytesOf m = [] := List.eq_nil_of_length_eq_zero (by rw [bytesOf_len, hm])
      refine ⟨.slice (some ⟨d, 0, none⟩) a.size a.size, σ.resize b, ?_, hq _ _ [d] ⟨fun c _ _ => rfl, fun _ h => .inl h⟩ (.inr ⟨d, ?_, ?_, rfl, by rw [size_app]; omega⟩)⟩
      · simp only [aappend, ty70, ty5, hiu, hz5, hx b, hki, hm, get_resize, hd]
        simp
      · rw [size_app, hm, Nat.add_zero]
      · rw [bytesOf_app, e0, List.append_nil]; exact hd
    · refine ⟨.slice (some ⟨b, 0, none⟩) (a.size + m.size) (a.size + m.size), ((σ.resize b).set d .dead).alloc (.cells (bytesOf a ++ bytesOf m) true 1), ?_, hq _ _ [b] ?_ (.inr ⟨b, ?_, ?_, rfl, by rw [size_app]; omega⟩)⟩
      · simp only [aappend, ty70, ty5, hiu, hz5, hx b, hki, get_resize, hd]
        have c1 : a.size + m.size ≤ 140737488355328 := by omega
        have c2 : ¬ a.size + m.size ≤ a.size := by omega
        have c3 : (bytesOf a).length = a.size := bytesOf_len a
        simp only [hm, hnew, c1, c2, dpB, decide_true, Bool.and_self, if_true, if_false, Bool.false_eq_true, Nat.zero_add, Nat.mul_one, c3, and_self, List.drop_zero]
        rfl
      · have hdb : d ≠ b := by rintro rfl; rw [hbd] at hd; cases hd
        refine ⟨fun c hc hn => ?_, fun c hc => by obtain rfl := List.mem_singleton.1 hc; exact .inr hbd⟩
        show (((σ.resize b).set d .dead).alloc _).get c = σ.get c
        rw [AHeap.get_alloc_ne _ _ (by intro e; exact hc (by rw [← e]; exact hbd)), AHeap.get_set_ne _ _ (by rintro rfl; exact hn (by simp))]
        rfl
      · rw [size_app]
      · rw [bytesOf_app]; exact AHeap.get_alloc_same ((σ.resize b).set d .dead) _
theorem src_str {σ : AHeap} {s : ByteArray} : srcCells σ 1 (.string s) = some (s.size, bytesOf s) := by simp only [srcCells, if_true]; rfl
theorem conv_BS {σ : AHeap} {v : Value} {a : ByteArray} {fp : List Nat} {K : Value → AHeap → Prop} (h : BS σ v a fp) (hq : K (.string a) σ) : afterOpS E B (some (convS E σ 70 9 v)) σ K := by
  have ea : (⟨a.data.toList.toArray⟩ : ByteArray) = a := rfl
  rcases h with ⟨h1, rfl, rfl⟩ | ⟨d, rfl, hd, rfl, ha⟩
  · have : a = ByteArray.empty := by
      obtain ⟨a⟩ := a
      have : a.size = 0 := h1
      rw [Array.eq_empty_of_size_eq_zero this]; rfl
    rw [this] at hq
    exact hq
  · have hl : (bytesOf a).length = a.size := bytesOf_len a
    intro b hb
    refine ⟨.string a, σ.resize b, ?_, hq⟩
    simp only [aconvert, ty70, ty9, ty5, takeCells, get_resize, hd]
    rw [if_pos (by rw [hl]; omega)]
    simp only [List.drop_zero]
    rw [List.take_of_length_le (by rw [hl]; omega), bytesOf_mapM]
    simp
end Go.Proofs.YtccimdfmddomaaaDoor.AbsA
