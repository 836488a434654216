/-
  An abstract machine over the model's code, with one soundness theorem (AbsM.call_ok): part AMe.
-/
import Derived.Test.YtlmcjfnignbdoaaAMd
/-
  Maps whose keys are numbers or strings, as lists of pairs.
-/
namespace AbsYtlmcjfnignbdoaa
set_option linter.unusedVariables false
set_option linter.unusedSimpArgs false
set_option linter.unusedSectionVars false
open Go

section
variable {α : Type} [DecidableEq α]
def lkp (l : List (α × Value)) (a : α) : Option Value := match l with
  | [] => none
  | p :: r => if p.1 = a then some p.2 else lkp r a
def mput (l : List (α × Value)) (a : α) (v : Value) : List (α × Value) := match l with
  | [] => [(a, v)]
  | p :: r => if p.1 = a then (a, v) :: r else p :: mput r a v
def mdel (l : List (α × Value)) (a : α) : List (α × Value) := match l with
  | [] => []
  | p :: r => if p.1 = a then r else p :: mdel r a
theorem lkp_put (l : List (α × Value)) (a b : α) (v : Value) : lkp (mput l a v) b = if b = a then some v else lkp l b := by
  induction l with
  | nil => simp only [mput, lkp]; by_cases h : a = b <;> simp [h, eq_comm]
  | cons p r ih =>
    simp only [mput]
    by_cases h : p.1 = a
    · rw [if_pos h]
      simp only [lkp]
      by_cases hb : a = b
      · subst hb; simp
      · rw [if_neg hb, if_neg (Ne.symm hb), if_neg (by rw [h]; exact hb)]
    · rw [if_neg h]
      simp only [lkp, ih]
      by_cases hb : p.1 = b
      · rw [if_pos hb, if_neg (by rw [← hb]; exact h), if_pos hb]
      · rw [if_neg hb, if_neg hb]
/-- the key is not there -/
theorem mput_new {l : List (α × Value)} {a : α} (h : lkp l a = none) (v : Value) : mput l a v = l ++ [(a, v)] := by
  induction l with
  | nil => rfl
  | cons p r ih =>
    simp only [lkp] at h
    split at h
    · cases h
    · rename_i hp
      simp only [mput, if_neg hp, ih h, List.cons_append]

/-- how keys are told apart -/
structure Keys (mk : α → Value) (d : TypeDesc) : Prop where
  same : ∀ a b, Instr.sameNow d (mk a) (mk b) = some (decide (a = b))
theorem int_keys (q k : IntKind) : Keys (fun n : Int => Value.int k n) (.int q) := ⟨fun a b => by
  simp only [Instr.sameNow, Option.some.injEq]
  first
    | rfl
    | (rw [Bool.eq_iff_iff]; simp)⟩
theorem str_keys : Keys Value.string .string := ⟨fun a b => by
  simp only [Instr.sameNow, Option.some.injEq]
  first
    | exact bytes_dec a b
    | exact bytes_list a b⟩

variable {mk : α → Value}
theorem find_map {d : TypeDesc} (hk : Keys mk d) {a : α} : ∀ {es : List MapEntry} {l : List (α × Value)} {i : Nat}, es.map (fun e => (e.key, e.val)) = l.map (fun p => (mk p.1, p.2)) →
    (lkp l a = none ∧ Instr.findNow d (mk a) es i = some none ∧ mdel l a = l) ∨
    ∃ j v, lkp l a = some v ∧ Instr.findNow d (mk a) es i = some (some (i + j, v)) ∧ j < es.length ∧ l[j]?.map (·.1) = some a ∧
      (∀ u, (es.modify j fun e => { e with key := mk a, val := u }).map (fun e => (e.key, e.val)) = (mput l a u).map (fun p => (mk p.1, p.2))) ∧ (es.eraseIdx j).map (fun e => (e.key, e.val)) = (mdel l a).map (fun p => (mk p.1, p.2))
  | [], [], i, _ => .inl ⟨rfl, rfl, rfl⟩
  | [], _ :: _, i, h => by simp at h
  | _ :: _, [], i, h => by simp at h
  | e :: es, p :: l, i, h => by
    simp only [List.map_cons, List.cons.injEq, Prod.mk.injEq] at h
    obtain ⟨⟨h1, h2⟩, h3⟩ := h
    simp only [Instr.findNow, h1, hk.same a p.1, lkp, mput, mdel]
    by_cases hp : p.1 = a
    · subst hp
      refine .inr ⟨0, p.2, by simp, by simp [h2], by simp, by simp, fun u => ?_, ?_⟩
      · simp [h3]
      · simp [h3]
    · have hd : decide (a = p.1) = false := by simp [Ne.symm hp]
      rw [hd]
      simp only [if_neg hp]
      rcases find_map hk (a := a) (i := i + 1) h3 with ⟨h4, h5, h6⟩ | ⟨j, v, h4, h5, h6, h7, h8, h9⟩
      · exact .inl ⟨h4, h5, by rw [h6]⟩
      · refine .inr ⟨j + 1, v, h4, by rw [h5]; congr 3; omega, by simp; omega, by simpa using h7, fun u => ?_, ?_⟩
        · simp [h1, h2, h8 u]
        · simp [h1, h2, h9]
/-- a block that is such a map -/
def MapIs (mk : α → Value) (H : AHeap) (r : Nat) (l : List (α × Value)) : Prop := ∃ es clk, H.get r = .map es clk ∧ es.map (fun e => (e.key, e.val)) = l.map (fun p => (mk p.1, p.2))
theorem MapIs.keep {H H' : AHeap} {r : Nat} {l : List (α × Value)} (h : MapIs mk H r l) (hg : H'.get r = H.get r) : MapIs mk H' r l := by
  obtain ⟨es, clk, h1, h2⟩ := h
  exact ⟨es, clk, by rw [hg]; exact h1, h2⟩
theorem MapIs.len {E : Env} {H : AHeap} {r : Nat} {l : List (α × Value)} (h : MapIs mk H r l) {t : Nat} {ts : List Nat} {kt et a b : Nat} {z : Option (List ZV)} {q : Bool} (ht : E.ty.get t = some ⟨.map kt et, a, b, z, q⟩) : abuiltin E H .len (t :: ts) [.map (some r)] = some (goInt l.length, H) := by
  obtain ⟨es, clk, h1, h2⟩ := h
  have : es.length = l.length := by have := congrArg List.length h2; simpa using this
  simp [abuiltin, ht, h1, this]
variable {E : Env} {H : AHeap}
theorem MapIs.look {d : TypeDesc} (hk : Keys mk d) {r : Nat} {l : List (α × Value)} (h : MapIs mk H r l) {t kt et a b : Nat} {z : Option (List ZV)} {q : Bool} (ht : E.ty.get t = some ⟨.map kt et, a, b, z, q⟩) {x : α} {zv : Value} (hkk : keyKind E kt (mk x) = some d) (hz : azeroV E et = some zv) (ok : Bool) :
    alookup E H t (.map (some r)) (mk x) ok = some (luRes ok ((lkp l x).getD zv) (lkp l x).isSome) := by
  obtain ⟨es, clk, h1, h2⟩ := h
  simp only [alookup, ht, hkk, hz, h1]
  rcases find_map hk (a := x) (i := 0) h2 with ⟨h4, h5, _⟩ | ⟨j, v, h4, h5, _⟩
  · simp [h5, h4]
  · simp [h5, h4]
theorem MapIs.put {d : TypeDesc} (hk : Keys mk d) {r : Nat} {l : List (α × Value)} (h : MapIs mk H r l) {t kt et a b : Nat} {z : Option (List ZV)} {q : Bool} (ht : E.ty.get t = some ⟨.map kt et, a, b, z, q⟩) {x : α} (hkk : keyKind E kt (mk x) = some d) (v : Value) :
    ∃ o, amapUpdate E H t (.map (some r)) (mk x) v = some (H.set r o) ∧ MapIs mk (H.set r o) r (mput l x v) := by
  obtain ⟨es, clk, h1, h2⟩ := h
  simp only [amapUpdate, ht, hkk, h1]
  rcases find_map hk (a := x) (i := 0) h2 with ⟨h4, h5, _⟩ | ⟨j, u, h4, h5, _, _, h8, _⟩
  · refine ⟨_, by rw [h5], ⟨_, _, AHeap.get_set_same _ _ _, ?_⟩⟩
    rw [mput_new h4]; simp [h2]
  · refine ⟨_, by rw [h5], ⟨_, _, AHeap.get_set_same _ _ _, ?_⟩⟩
    rw [Nat.zero_add]; exact h8 v
theorem set_self (H : AHeap) (r b : Nat) : (H.set r (H.get r)).get b = H.get b := by
  rw [get_set]; split
  · rename_i h; rw [h]
  · rfl
theorem MapIs.del {d : TypeDesc} (hk : Keys mk d) {r : Nat} {l : List (α × Value)} (h : MapIs mk H r l) {t kt et a b : Nat} {z : Option (List ZV)} {q : Bool} (ht : E.ty.get t = some ⟨.map kt et, a, b, z, q⟩) {x : α} (hkk : keyKind E kt (mk x) = some d) :
    ∃ H', adelete E H t (.map (some r)) (mk x) = some H' ∧ MapIs mk H' r (mdel l x) ∧ H'.size = H.size ∧ ∀ b, b ≠ r → H'.get b = H.get b := by
  obtain ⟨es, clk, h1, h2⟩ := h
  simp only [adelete, ht, hkk, h1]
  rcases find_map hk (a := x) (i := 0) h2 with ⟨h4, h5, h6⟩ | ⟨j, u, h4, h5, _, _, _, h9⟩
  · exact ⟨H, by rw [h5], ⟨es, clk, h1, by rw [h6]; exact h2⟩, rfl, fun _ _ => rfl⟩
  · refine ⟨_, by rw [h5], ⟨_, _, AHeap.get_set_same _ _ _, ?_⟩, AHeap.size_set _ _ _, fun b hb => AHeap.get_set_ne _ _ (Ne.symm hb)⟩
    rw [Nat.zero_add]; exact h9
end
end AbsYtlmcjfnignbdoaa

/-
  Numbers: quotients, remainders, bits; loops that are run through.
-/
namespace AbsYtlmcjfnignbdoaa
set_option linter.unusedVariables false
set_option linter.unusedSimpArgs false
set_option linter.unusedSectionVars false
open Go

theorem W_unroll {E : Env} {c : Code} {A : List Value} {H : AHeap} {Q : AExit → List Value → AHeap → Prop} : CodeW E (.loop c) A H Q ↔ CodeW E c A H (thenQ Q fun A H => CodeW E (.loop c) A H Q) := by
  refine ⟨fun ⟨k, e, A', H', h, hq⟩ => ?_, w_loop⟩
  cases k with
  | zero => cases h
  | succ k =>
    simp only [exec] at h
    split at h
    · rename_i A1 H1 h1
      exact ⟨k, .normal, A1, H1, h1, k, e, A', H', h, hq⟩
    · rename_i hno
      refine ⟨k, e, A', H', h, ?_⟩
      cases e with
      | normal => exact (hno _ _ h).elim
      | exit id => exact hq
      | ret => exact hq

theorem quo_pos {a b : Int} (ha : 0 ≤ a) (ha' : a ≤ 9223372036854775807) (hb : 0 < b) : aint .quo .i64 a b = some (.int .i64 (a / b)) := by
  have h1 : a.tdiv b = a / b := Int.tdiv_eq_ediv_of_nonneg ha
  have h2 : 0 ≤ a / b := Int.ediv_nonneg ha (by omega)
  have h3 : a / b ≤ a := Int.ediv_le_self b ha
  simp only [aint, h1]
  rw [if_neg (by omega), wrap64 ⟨by omega, by omega⟩]
theorem rem_pos {k : IntKind} {a b : Int} (ha : 0 ≤ a) (hb : 0 < b) : aint .rem k a b = some (.int k (a % b)) := by
  have h1 : a.tmod b = a % b := Int.tmod_eq_emod_of_nonneg ha
  simp only [aint, h1]
  rw [if_neg (by omega)]
def orT : Bool := (List.range 128).all fun n => match aint .or .i64 (n : Int) 128 with
  | some (.int .i64 m) => decide (m = (n : Int) + 128)
  | _ => false
theorem or128 {a : Int} (h0 : 0 ≤ a) (h1 : a < 128) : aint .or .i64 a 128 = some (.int .i64 (a + 128)) := by
  have ht : orT = true := by decide +kernel
  simp only [orT, List.all_eq_true, List.mem_range] at ht
  have := ht a.toNat (by omega)
  rw [show ((a.toNat : Nat) : Int) = a by omega] at this
  split at this
  · rename_i m hm
    rw [hm]; simp only [decide_eq_true_eq] at this; rw [this]
  · cases this
def andT (k : IntKind) (j : IntKind) : Bool := (List.range 256).all fun n => match aint .and k (n : Int) 127 with
  | some (.int j' m) => decide (j' = j) && decide (m = (n : Int) % 128)
  | _ => false
theorem and127 {k : IntKind} (hk : k = .i64 ∨ k = .u8) {a : Int} (h0 : 0 ≤ a) (h1 : a < 256) : aint .and k a 127 = some (.int k (a % 128)) := by
  have ht : andT k k = true := by rcases hk with rfl | rfl <;> decide +kernel
  simp only [andT, List.all_eq_true, List.mem_range] at ht
  have := ht a.toNat (by omega)
  rw [show ((a.toNat : Nat) : Int) = a by omega] at this
  split at this
  · rename_i j m hm
    simp only [Bool.and_eq_true, decide_eq_true_eq] at this
    rw [hm, this.1, this.2]
  · cases this
theorem abits_nat {n m : Nat} (hn : n < 2 ^ 62) (hm : m < 2 ^ 62) (hor : n ||| m < 2 ^ 62) : aint .or .i64 (n : Int) (m : Int) = some (.int .i64 ((n ||| m : Nat) : Int)) := by
  have key : ((BitVec.ofInt 64 (n : Int)) ||| (BitVec.ofInt 64 (m : Int))).toNat = n ||| m := by
    rw [BitVec.toNat_or, BitVec.ofInt_natCast, BitVec.ofInt_natCast, BitVec.toNat_ofNat, BitVec.toNat_ofNat]
    rw [Nat.mod_eq_of_lt (by omega), Nat.mod_eq_of_lt (by omega)]
  show some (Value.int .i64 (IntKind.i64.wrap ((((BitVec.ofInt 64 (n : Int)) ||| (BitVec.ofInt 64 (m : Int))).toNat : Nat) : Int))) = _
  rw [key, wrap64 ⟨by omega, by omega⟩]
theorem or_add {n m i : Nat} (h : n < 2 ^ i) : n ||| (m * 2 ^ i) = n + m * 2 ^ i := by
  rw [Nat.or_comm, Nat.mul_comm, ← Nat.two_pow_add_eq_or_of_lt h]; omega
theorem splice_one {cs : List Value} {o : Nat} {v : Value} (h : o < cs.length) : splice cs o [v] = cs.set o v := by
  rw [List.set_eq_take_append_cons_drop, if_pos h]
  simp [splice]
theorem reps_one (v : Value) (n : Nat) : reps [v] n = List.replicate n v := by
  induction n with
  | zero => rfl
  | succ n ih => simp only [reps, ih, List.replicate_succ]; rfl
section
variable {E : Env} {H : AHeap}
theorem bool_eql {t a b : Nat} {z : Option (List ZV)} {q : Bool} (ht : E.ty.get t = some ⟨.bool, a, b, z, q⟩) {cs x y : Bool} : abin E H .eql t cs (.bool x) (.bool y) = some (.bool (x == y)) := by
  simp [abin, nonNum, eqAsk, aeq, ht]
theorem bool_neq' {t a b : Nat} {z : Option (List ZV)} {q : Bool} (ht : E.ty.get t = some ⟨.bool, a, b, z, q⟩) {cs x y : Bool} : abin E H .neq t cs (.bool x) (.bool y) = some (.bool (!(x == y))) := by
  simp [abin, nonNum, eqAsk, aeq, ht]
theorem str_add {t : Nat} {cs : Bool} {a b : ByteArray} (h : a.size + b.size ≤ 9223372036854775807) : abin E H .add t cs (.string a) (.string b) = some (.string (a ++ b)) := by
  simp [abin, astr, h]
theorem slice_to {t a b : Nat} {z : Option (List ZV)} {q : Bool} (ht : E.ty.get t = some ⟨.string, a, b, z, q⟩) {s : ByteArray} {k : Nat} (h : k ≤ s.size) : aslice E H t (.string s) none (some (.int .i64 (k : Int))) none = some (.string (s.extract 0 k)) := by
  simp [aslice, ht, abound, h]
theorem slice_from {t a b : Nat} {z : Option (List ZV)} {q : Bool} (ht : E.ty.get t = some ⟨.string, a, b, z, q⟩) {s : ByteArray} {k : Nat} (h : k ≤ s.size) : aslice E H t (.string s) (some (.int .i64 (k : Int))) none none = some (.string (s.extract k s.size)) := by
  simp [aslice, ht, abound, h]
theorem slice_both {t a b : Nat} {z : Option (List ZV)} {q : Bool} (ht : E.ty.get t = some ⟨.string, a, b, z, q⟩) {s : ByteArray} {k l : Nat} (h : k ≤ l) (h' : l ≤ s.size) : aslice E H t (.string s) (some (.int .i64 (k : Int))) (some (.int .i64 (l : Int))) none = some (.string (s.extract k l)) := by
  simp [aslice, ht, abound, h, h']
end
theorem extract_split (s : ByteArray) {k : Nat} (h : k ≤ s.size) : s.extract 0 k ++ s.extract k s.size = s := by
  cases s with | mk d =>
  apply ByteArray.ext
  simp [ByteArray.data_append, ByteArray.data_extract]
theorem extract_all (s : ByteArray) : s.extract 0 s.size = s := by
  cases s with | mk d =>
  apply ByteArray.ext
  simp
theorem size_app (a b : ByteArray) : (a ++ b).size = a.size + b.size := ByteArray.size_append
def andOk (m : Int) (f : Nat → Nat) : Bool := (List.range 256).all fun n => match aint .and .u8 (n : Int) m with
  | some (.int .u8 r) => decide (r = (f n : Int))
  | _ => false
theorem and_u8 {m : Int} {f : Nat → Nat} (h : andOk m f = true) {c : Nat} (hc : c < 256) : aint .and .u8 (c : Int) m = some (.int .u8 ((f c : Nat) : Int)) := by
  simp only [andOk, List.all_eq_true, List.mem_range] at h
  have := h c hc
  split at this
  · rename_i r hr
    rw [hr]; simp only [decide_eq_true_eq] at this; rw [this]
  · cases this
theorem and192 {c : Nat} (h : c < 256) : aint .and .u8 (c : Int) 192 = some (.int .u8 ((c / 64 * 64 : Nat) : Int)) := and_u8 (f := fun c => c / 64 * 64) (by decide +kernel) h
theorem and63 {c : Nat} (h : c < 256) : aint .and .u8 (c : Int) 63 = some (.int .u8 ((c % 64 : Nat) : Int)) := and_u8 (f := fun c => c % 64) (by decide +kernel) h
theorem and31 {c : Nat} (h : c < 256) : aint .and .u8 (c : Int) 31 = some (.int .u8 ((c % 32 : Nat) : Int)) := and_u8 (f := fun c => c % 32) (by decide +kernel) h
theorem and15 {c : Nat} (h : c < 256) : aint .and .u8 (c : Int) 15 = some (.int .u8 ((c % 16 : Nat) : Int)) := and_u8 (f := fun c => c % 16) (by decide +kernel) h
theorem and7 {c : Nat} (h : c < 256) : aint .and .u8 (c : Int) 7 = some (.int .u8 ((c % 8 : Nat) : Int)) := and_u8 (f := fun c => c % 8) (by decide +kernel) h
theorem shl6 {E : Env} {H : AHeap} {n t : Nat} {cs : Bool} (h : n < 2 ^ 40) : abin E H .shl t cs (.int .i64 (n : Int)) (.int .u64 6) = some (.int .i64 ((n * 64 : Nat) : Int)) := by
  simp only [abin, ashift]
  rw [if_neg (by omega)]
  show some (Value.int .i64 (IntKind.i64.wrap ((n : Int) * 2 ^ 6))) = _
  rw [wrap64 ⟨by omega, by omega⟩]; congr 2
theorem or6 {n x : Nat} (h : n < 2 ^ 40) (hx : x < 64) : aint .or .i64 ((n * 64 : Nat) : Int) (x : Int) = some (.int .i64 ((n * 64 + x : Nat) : Int)) := by
  have e : n * 64 ||| x = n * 64 + x := by
    have := or_add (n := x) (m := n) (i := 6) (by omega)
    rw [Nat.or_comm, show n * 64 = n * 2 ^ 6 from rfl, this]; omega
  rw [abits_nat (by omega) (by omega) (by rw [e]; omega), e]
end AbsYtlmcjfnignbdoaa

/-
  The walk's rules in two bundles.
-/
namespace AbsYtlmcjfnignbdoaa
open Go
set_option linter.defProp false
def wbD := And.intro @W_seq <| And.intro @W_region <| And.intro @W_block <| And.intro @W_cond <| And.intro @W_skip <| And.intro @W_ret <| And.intro @W_exit <| And.intro @O_op <| And.intro @O_guardC <| And.intro @O_nil <| And.intro @after_val <| And.intro @after_call <| And.intro @then_normal <| And.intro @then_ret <| And.intro @then_exit <| And.intro @blockQ_ret <| And.intro @blockQ_normal <| And.intro @blockQ_exit <| And.intro @retQ_ret <| And.intro @retQ_normal <| And.intro @C_true <| And.intro @C_false <| And.intro @K_op <| And.intro @W_drawT <| And.intro @T_op <| And.intro @T_guard <| And.intro @T_nil <| And.intro @trK_iff <| @consQ_iff
def wbU := And.intro @GT_true <| And.intro @GT_tf <| And.intro @GT_ft <| And.intro @array_toList <| And.intro @G_true <| And.intro @G_tf <| And.intro @G_ft <| And.intro @yield_list <| And.intro @yield_here <| And.intro @yield_next <| And.intro @truth_bool <| And.intro @thenQ_normal <| And.intro @thenQ_exit <| And.intro @thenQ_ret <| And.intro @vres_some <| And.intro @hres_some <| And.intro @ures_some <| And.intro @abin_int <| And.intro @aint_eql <| And.intro @aint_neq <| And.intro @aint_lss <| And.intro @aint_leq <| And.intro @aint_gtr <| And.intro @aint_geq <| And.intro @aint_add <| And.intro @aint_sub <| And.intro @aput_some <| And.intro @aput_none <| And.intro @res_cell1 <| And.intro @upd_at <| And.intro @aev_const <| And.intro @aev_tmp <| And.intro @aev_func <| And.intro @ofL_zero <| And.intro @ofL_succ <| And.intro @ofL_nil <| And.intro @res_nil <| And.intro @res_tmp <| And.intro @oneOf_one <| And.intro @oneOf_two <| And.intro @oneOf_three <| And.intro @Option.map_some.{0, 0} <| And.intro @Option.map_none.{0, 0} <| And.intro @ne_eq.{1} <| And.intro @not_false_eq_true <| And.intro @Option.some.injEq.{0} <| And.intro @exists_eq_left'.{1} <| And.intro @List.map_cons.{0, 0} <| And.intro @List.map_nil.{0, 0} <| And.intro @not_true <| And.intro @true_and <| And.intro @Array.toList_empty.{0} <| And.intro @List.nil_append.{0} <| And.intro @List.append_nil.{0} <| And.intro @G_undef <| And.intro @GT_undef <| And.intro @str_eql <| And.intro @str_neq' <| And.intro @min_int <| @max_int
end AbsYtlmcjfnignbdoaa

