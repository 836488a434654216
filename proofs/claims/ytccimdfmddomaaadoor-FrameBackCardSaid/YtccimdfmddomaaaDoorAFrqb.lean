/-
  A part of a law's proof.
-/
import Derived.Test.YtccimdfmddomaaaDoorABaqc
import Derived.Test.YtccimdfmddomaaaDoorADgqb
namespace Go.Proofs.YtccimdfmddomaaaDoor.AbsA
open Go AbsYtccimdfmddomaaaDoor Abs
set_option maxRecDepth 100000
set_option maxHeartbeats 4000000
set_option linter.unusedSimpArgs false
set_option linter.unusedVariables false
/-- may a packet begin with a byte -/
def mayN (n : Nat) : Bool := decide (16 ≤ n) && (decide (n ≤ 255) && (if n / 16 = 3 then !(decide (n % 16 / 2 % 4 = 3)) && !(decide (8 ≤ n % 16) && decide (n % 16 / 2 % 4 = 0)) else if n / 16 = 6 ∨ n / 16 = 8 ∨ n / 16 = 10 then decide (n % 16 = 2) else decide (n % 16 = 0)))
def mayI (n : Int) : Bool := decide (0 ≤ n) && mayN n.toNat
/-- what comes next of bytes: they are too few, or none can come (an error's number, reason and place), or a packet and what is left -/
inductive Fst where
  | wait
  | bad (k r a : Nat)
  | got (f : Nat) (b t : ByteArray)
def nextF (most : Int) (s : ByteArray) : Fst :=
  if mayN (bt s 0) = true then
    match takeF (s.extract 1 s.size) 4 0 0 with
    | .inr (0, _) => .wait
    | .inr (k + 1, q) => .bad (k + 2) 129 (1 + q)
    | .inl (n, k) => if most < ((1 + k + n : Nat) : Int) then .bad 4 149 0 else if s.size < 1 + k + n then .wait else .got (bt s 0) (s.extract (1 + k) (1 + k + n)) (s.extract (1 + k + n) s.size)
  else .bad 2 129 0
abbrev Fr := Int × ByteArray
/-- all packets of bytes, the error behind them, and what is left -/
inductive AllF (most : Int) : ByteArray → List Fr → Option (Nat × Nat × Nat) → ByteArray → Prop
  | nil {s : ByteArray} (h : s.size = 0) : AllF most s [] none s
  | wait {s : ByteArray} (h : s.size ≠ 0) (hn : nextF most s = .wait) : AllF most s [] none s
  | bad {s : ByteArray} {k r a : Nat} (h : s.size ≠ 0) (hn : nextF most s = .bad k r a) : AllF most s [] (some (k, r, a)) s
  | got {s b t u : ByteArray} {f : Nat} {l : List Fr} {e : Option (Nat × Nat × Nat)} (h : s.size ≠ 0) (hn : nextF most s = .got f b t) (hr : AllF most t l e u) : AllF most s (((f : Int), b) :: l) e u
theorem takeF_pos (b : ByteArray) : ∀ (k i n : Nat), match takeF b k i n with
    | .inl (_, j) => i < j
    | .inr _ => True
  | 0, i, n => by simp only [takeF]
  | k + 1, i, n => by
    unfold takeF
    by_cases h1 : i = b.size
    · rw [if_pos h1]; trivial
    · rw [if_neg h1]
      by_cases h2 : bt b i < 128
      · rw [if_pos h2]
        by_cases h3 : bt b i = 0 ∧ 0 < i
        · rw [if_pos h3]; trivial
        · rw [if_neg h3]; show i < i + 1; omega
      · rw [if_neg h2]
        have := takeF_pos b k (i + 1) (n + bt b i % 128 * 128 ^ i)
        generalize takeF b k (i + 1) (n + bt b i % 128 * 128 ^ i) = T at this ⊢
        match T, this with
        | .inl (_, j), h => exact Nat.lt_trans (Nat.lt_succ_self i) h
        | .inr _, _ => trivial
theorem takeF_lt (b : ByteArray) : ∀ (k i n : Nat), n < 128 ^ i → match takeF b k i n with
    | .inl (m, _) => m < 128 ^ (i + k)
    | .inr _ => True
  | 0, i, n, _ => by simp only [takeF]
  | k + 1, i, n, hn => by
    have hd : bt b i % 128 ≤ 127 := by omega
    have hm : bt b i % 128 * 128 ^ i ≤ 127 * 128 ^ i := Nat.mul_le_mul_right _ hd
    have hp : 128 ^ (i + 1) = 128 ^ i * 128 := Nat.pow_succ ..
    have hlt : n + bt b i % 128 * 128 ^ i < 128 ^ (i + 1) := by omega
    unfold takeF
    by_cases h1 : i = b.size
    · rw [if_pos h1]; trivial
    · rw [if_neg h1]
      by_cases h2 : bt b i < 128
      · rw [if_pos h2]
        by_cases h3 : bt b i = 0 ∧ 0 < i
        · rw [if_pos h3]; trivial
        · rw [if_neg h3]
          show n + bt b i % 128 * 128 ^ i < 128 ^ (i + (k + 1))
          exact Nat.lt_of_lt_of_le hlt (Nat.pow_le_pow_right (by omega) (by omega))
      · rw [if_neg h2]
        have := takeF_lt b k (i + 1) _ hlt
        rw [show i + 1 + k = i + (k + 1) by omega] at this
        exact this
theorem takeF_n {b : ByteArray} {n k : Nat} (h : takeF b 4 0 0 = .inl (n, k)) : n < 268435456 := by
  have := takeF_lt b 4 0 0 (by decide)
  rw [h] at this
  exact this
theorem bt_appl {a p : ByteArray} {i : Nat} (h : i < a.size) : bt (a ++ p) i = bt a i := by
  have h1 : i < (a ++ p).size := by rw [size_app]; omega
  unfold bt
  rw [getElem?_pos (a ++ p) i h1, getElem?_pos a i h]
  simp only
  rw [ByteArray.getElem_append_left h]
/-- more bytes change nothing but 'too few' -/
theorem takeF_app (b p : ByteArray) : ∀ (k i n : Nat), i ≤ b.size → (∃ q, takeF b k i n = .inr (0, q)) ∨ takeF (b ++ p) k i n = takeF b k i n
  | 0, i, n, _ => .inr rfl
  | k + 1, i, n, h => by
    unfold takeF
    by_cases h1 : i = b.size
    · rw [if_pos h1]; exact .inl ⟨_, rfl⟩
    · have hsz : (b ++ p).size = b.size + p.size := size_app b p
      rw [if_neg h1, if_neg (by omega : ¬ i = (b ++ p).size), bt_appl (by omega)]
      by_cases h2 : bt b i < 128
      · rw [if_pos h2, if_pos h2]; exact .inr rfl
      · rw [if_neg h2, if_neg h2]
        exact takeF_app b p k (i + 1) _ (by omega)
theorem ext1_app (a p : ByteArray) {i : Nat} (h : i ≤ a.size) : (a ++ p).extract i (a ++ p).size = a.extract i a.size ++ p := by
  apply ByteArray.ext
  simp only [ByteArray.data_extract, ByteArray.data_append, size_app]
  have hz : a.size = a.data.size := rfl
  have hz2 : p.size = p.data.size := rfl
  apply Array.ext
  · simp only [Array.size_extract, Array.size_append]; omega
  · intro j h1 h2
    simp only [Array.size_extract, Array.size_append] at h1 h2
    by_cases hj : i + j < a.data.size
    · rw [Array.getElem_extract, Array.getElem_append_left hj, Array.getElem_append_left (by simp only [Array.size_extract]; omega), Array.getElem_extract]
    · rw [Array.getElem_extract, Array.getElem_append_right (by omega), Array.getElem_append_right (by simp only [Array.size_extract]; omega)]
      congr 1
      simp only [Array.size_extract]; omega
theorem ext2_app (a p : ByteArray) {i j : Nat} (h : j ≤ a.size) : (a ++ p).extract i j = a.extract i j := by
  apply ByteArray.ext
  simp only [ByteArray.data_extract, ByteArray.data_append]
  have hz : a.size = a.data.size := rfl
  apply Array.ext
  · simp only [Array.size_extract, Array.size_append]; omega
  · intro k h1 h2
    simp only [Array.size_extract, Array.size_append] at h1 h2
    rw [Array.getElem_extract, Array.getElem_append_left (by omega), Array.getElem_extract]
theorem nextF_app {most : Int} {s : ByteArray} (p : ByteArray) (hs : s.size ≠ 0) : match nextF most s with
    | .wait => True
    | .bad k r a => nextF most (s ++ p) = .bad k r a
    | .got f b t => nextF most (s ++ p) = .got f b (t ++ p) := by
  have hb : bt (s ++ p) 0 = bt s 0 := bt_appl (by omega)
  have hx : (s ++ p).extract 1 (s ++ p).size = s.extract 1 s.size ++ p := ext1_app s p (by omega)
  have hsz : (s ++ p).size = s.size + p.size := size_app s p
  have ht := takeF_app (s.extract 1 s.size) p 4 0 0 (by omega)
  unfold nextF
  rw [hb, hx]
  by_cases hm : mayN (bt s 0) = true
  · rw [if_pos hm, if_pos hm]
    rcases ht with ⟨q, ht⟩ | ht
    · rw [ht]; trivial
    · rw [ht]
      cases htk : takeF (s.extract 1 s.size) 4 0 0 with
      | inr a =>
        obtain ⟨k, q⟩ := a
        cases k with
        | zero => trivial
        | succ k => rfl
      | inl a =>
        obtain ⟨n, k⟩ := a
        simp only
        by_cases h1 : most < ((1 + k + n : Nat) : Int)
        · simp only [if_pos h1]
        · by_cases h2 : s.size < 1 + k + n
          · simp only [if_neg h1, if_pos h2]
          · have h3 : ¬ (s ++ p).size < 1 + k + n := by omega
            simp only [if_neg h1, if_neg h2, if_neg h3]
            rw [ext1_app s p (by omega), ext2_app s p (by omega)]
  · rw [if_neg hm, if_neg hm]
theorem AllF.more {most : Int} {s t p u : ByteArray} {l l' : List Fr} {e e' : Option (Nat × Nat × Nat)} (h : AllF most s l e t) (he : e = none) (h' : AllF most (t ++ p) l' e' u) : AllF most (s ++ p) (l ++ l') e' u := by
  induction h with
  | nil h => exact h'
  | wait h hn => exact h'
  | bad h hn => cases he
  | got h hn hr ih =>
    have := nextF_app (most := most) p h
    rw [hn] at this
    exact .got (by rw [size_app]; omega) this (ih he h')
theorem AllF.off {most : Int} {s t p : ByteArray} {l : List Fr} {e : Option (Nat × Nat × Nat)} (h : AllF most s l e t) {x : Nat × Nat × Nat} (he : e = some x) : AllF most (s ++ p) l e (t ++ p) := by
  induction h with
  | nil h => cases he
  | wait h hn => cases he
  | bad h hn =>
    have := nextF_app (most := most) p h
    rw [hn] at this
    exact .bad (by rw [size_app]; omega) this
  | got h hn hr ih =>
    have := nextF_app (most := most) p h
    rw [hn] at this
    exact .got (by rw [size_app]; omega) this (ih he)
theorem nextF_got {most : Int} {s b t : ByteArray} {f : Nat} (h : nextF most s = .got f b t) : f < 256 ∧ t.size + 2 ≤ s.size ∧ mayN f = true ∧ b.size + t.size + 2 ≤ s.size ∧ f = bt s 0 := by
  unfold nextF at h
  by_cases hm : mayN (bt s 0) = true
  · rw [if_pos hm] at h
    have hp := takeF_pos (s.extract 1 s.size) 4 0 0
    split at h
    · cases h
    · cases h
    · rename_i n k ht
      rw [ht] at hp
      have hp : 0 < k := hp
      split at h
      · cases h
      · split at h
        · cases h
        · injection h with h1 h2 h3
          subst h1; subst h2; subst h3
          refine ⟨bt_lt _ _, ?_, hm, ?_, rfl⟩ <;> simp only [ByteArray.size_extract] <;> omega
  · rw [if_neg hm] at h; cases h
theorem AllF.len {most : Int} {s t : ByteArray} {l : List Fr} {e : Option (Nat × Nat × Nat)} (h : AllF most s l e t) : 2 * l.length + t.size ≤ s.size := by
  induction h with
  | nil h => simp
  | wait h hn => simp
  | bad h hn => simp
  | got h hn hr ih =>
    have := nextF_got hn
    rw [List.length_cons]; omega
theorem AllF.total (most : Int) : ∀ (n : Nat) (s : ByteArray), s.size ≤ n → ∃ l e t, AllF most s l e t
  | 0, s, h => ⟨[], none, s, .nil (by omega)⟩
  | n + 1, s, h => by
    by_cases h0 : s.size = 0
    · exact ⟨_, _, _, .nil h0⟩
    · cases hn : nextF most s with
      | wait => exact ⟨_, _, _, .wait h0 hn⟩
      | bad k r a => exact ⟨_, _, _, .bad h0 hn⟩
      | got f b t =>
        have := nextF_got hn
        obtain ⟨l, e, u, h1⟩ := AllF.total most n t (by omega)
        exact ⟨_, _, _, .got h0 hn h1⟩
theorem AllF.det {most : Int} {s t : ByteArray} {l : List Fr} {e : Option (Nat × Nat × Nat)} (h : AllF most s l e t) : ∀ {l' e' t'}, AllF most s l' e' t' → l = l' ∧ e = e' ∧ t = t' := by
  induction h with
  | nil h =>
    intro l' e' t' h'
    cases h' with
    | nil _ => exact ⟨rfl, rfl, rfl⟩
    | wait h1 _ => exact absurd h h1
    | bad h1 _ => exact absurd h h1
    | got h1 _ _ => exact absurd h h1
  | wait h hn =>
    intro l' e' t' h'
    cases h' with
    | nil h1 => exact absurd h1 h
    | wait _ _ => exact ⟨rfl, rfl, rfl⟩
    | bad _ h1 => rw [hn] at h1; cases h1
    | got _ h1 _ => rw [hn] at h1; cases h1
  | bad h hn =>
    intro l' e' t' h'
    cases h' with
    | nil h1 => exact absurd h1 h
    | wait _ h1 => rw [hn] at h1; cases h1
    | bad _ h1 => rw [hn] at h1; injection h1 with a b c; subst a; subst b; subst c; exact ⟨rfl, rfl, rfl⟩
    | got _ h1 _ => rw [hn] at h1; cases h1
  | got h hn hr ih =>
    intro l' e' t' h'
    cases h' with
    | nil h1 => exact absurd h1 h
    | wait _ h1 => rw [hn] at h1; cases h1
    | bad _ h1 => rw [hn] at h1; cases h1
    | got _ h1 h2 =>
      rw [hn] at h1
      injection h1 with a b c
      subst a; subst b; subst c
      obtain ⟨r1, r2, r3⟩ := ih h2
      exact ⟨by rw [r1], r2, r3⟩
/-- a packet's bytes -/
def putF (f : Nat) (b : ByteArray) : ByteArray := str [f] ++ str (enc b.size) ++ b
theorem nextF_put {most : Int} {f : Nat} {b s : ByteArray} (hf : mayN f = true) (hb : b.size ≤ 1000000) (hm : (putF f b).size ≤ most) : nextF most (putF f b ++ s) = .got f b s := by
  have hf2 : f < 256 := by
    unfold mayN at hf
    simp only [Bool.and_eq_true, decide_eq_true_eq] at hf
    omega
  have s1 : (str [f]).size = 1 := str_size _
  have s2 : (str (enc b.size)).size = vsize b.size := by rw [str_size, enc_len]
  have hsz : (putF f b).size = 1 + vsize b.size + b.size := by unfold putF; rw [size_app, size_app, s1, s2]
  have e1 : putF f b ++ s = str [f] ++ (str (enc b.size) ++ (b ++ s)) := by
    unfold putF; rw [app_assoc, app_assoc]
  have b0 : bt (putF f b ++ s) 0 = f := by rw [e1, bt_appl (by omega)]; exact bt_strL (l := [f]) (i := 0) (by simp) hf2
  have x1 : (putF f b ++ s).extract 1 (putF f b ++ s).size = str (enc b.size) ++ (b ++ s) := by
    have := ext_tail (str [f]) (str (enc b.size) ++ (b ++ s))
    rw [s1] at this
    rw [e1]; exact this
  have hz : (putF f b ++ s).size = 1 + vsize b.size + b.size + s.size := by rw [size_app, hsz]
  have x2 : (putF f b ++ s).extract (1 + vsize b.size) (1 + vsize b.size + b.size) = b := by
    have := ext_mid (str [f] ++ str (enc b.size)) b s
    rw [size_app, s1, s2] at this
    exact this
  have x3 : (putF f b ++ s).extract (1 + vsize b.size + b.size) (putF f b ++ s).size = s := by
    have := ext_tail (putF f b) s
    rw [hsz] at this
    exact this
  unfold nextF
  rw [b0, if_pos hf, x1, take_enc (by omega)]
  simp only
  rw [if_neg (by omega), if_neg (by omega), x2, x3]
def putL : List (Nat × ByteArray) → ByteArray
  | [] => emp
  | (f, b) :: l => putF f b ++ putL l
theorem AllF.put {most : Int} : ∀ {l : List (Nat × ByteArray)}, (∀ x ∈ l, mayN x.1 = true ∧ x.2.size ≤ 1000000 ∧ ((putF x.1 x.2).size : Int) ≤ most) → AllF most (putL l) (l.map fun x => ((x.1 : Int), x.2)) none emp
  | [], _ => .nil rfl
  | (f, b) :: l, h => by
    obtain ⟨h1, h2, h3⟩ := h (f, b) (by simp)
    refine .got ?_ (nextF_put h1 h2 h3) (AllF.put fun x hx => h x (List.mem_cons_of_mem _ hx))
    show (putF f b ++ putL l).size ≠ 0
    unfold putF
    rw [size_app, size_app, size_app, str_size]
    simp only [List.length_cons]
    omega
theorem putL_app (a b : List (Nat × ByteArray)) : putL (a ++ b) = putL a ++ putL b := by
  induction a with
  | nil => exact (emp_app' _).symm
  | cons x a ih => obtain ⟨f, c⟩ := x; show putF f c ++ putL (a ++ b) = putF f c ++ putL a ++ putL b; rw [ih, app_assoc]
end Go.Proofs.YtccimdfmddomaaaDoor.AbsA
