/-
  A part of a law's proof.
-/
import Derived.Test.YtlmcjfnignbdoaaATb
namespace Go.Proofs.Ytlmcjfnignbdoaa.Abs
open Go AbsYtlmcjfnignbdoaa
set_option maxRecDepth 100000
set_option linter.unusedSimpArgs false
/-- a Publish -/
def pubV (id qos : Int) (dup rt : Bool) (t p : ByteArray) (sl : Value) : List Value :=
  [.int .i64 3, .int .i64 id, .int .i64 0, sl, .bool false, .int .i64 0, .string ⟨#[]⟩, .bool false, .string ⟨#[]⟩, .string ⟨#[]⟩, .int .i64 0, .bool false, .slice none 0 0, .bool false, .string ⟨#[]⟩, .bool false, .string ⟨#[]⟩, .bool false,
    .string t, .string p, .int .i64 qos, .bool rt, .bool dup, .slice none 0 0, .slice none 0 0, .slice none 0 0]
theorem build40 {id qos : Int} {dup rt : Bool} {t p : ByteArray} {a : Option Addr} {n c : Nat} : abuild E 40 [(0, .int .i64 3), (1, .int .i64 id), (15, .int .i64 qos), (17, .bool dup), (13, .string t), (14, .string p), (16, .bool rt), (3, .slice a n c)] =
    some (.agg (pubV id qos dup rt t p (.slice a n c)).toArray) := by kernel_rfl
theorem slice_shape {H : AHeap} {sz n : Nat} {v : Value} {cs : List Value} (h : SliceAt H sz v n cs) : ∃ a m c, v = .slice a m c := by
  rcases h.at' with ⟨rfl, _⟩ | ⟨b, o, c, ex, all, wr, rfl, _⟩
  · exact ⟨_, _, _, rfl⟩
  · exact ⟨_, _, _, rfl⟩
theorem zero40 : azero E 40 = some (pubV 0 0 false false ⟨#[]⟩ ⟨#[]⟩ (.slice none 0 0) |>.set 0 (.int .i64 0)) := rfl
theorem st40 {H : AHeap} {b : Nat} {zs : List Value} {id qos : Int} {dup rt : Bool} {t p : ByteArray} {a : Option Addr} {n c : Nat} (hg : H.get b = .cells zs true 0) (hz : zs.length = 26) :
    astore E H 40 (.pointer (some ⟨b, 0, none⟩)) (.agg (pubV id qos dup rt t p (.slice a n c)).toArray) = some (H.set b (.cells (pubV id qos dup rt t p (.slice a n c)) true 0)) := by
  simp [astore, ty40, astoreAt, hg, vcells, pubV, splice, hz, oneCell, List.drop_eq_nil_of_le (Nat.le_of_eq hz)]
theorem ld40 {H : AHeap} {b : Nat} {zs : List Value} {wr : Bool} (hg : H.get b = .cells zs wr 0) (hz : zs.length = 26) : aload E H 40 (.pointer (some ⟨b, 0, none⟩)) = some (.agg zs.toArray) := by
  rw [ld_agg ty40 rfl hg (show 0 + 26 ≤ zs.length by omega)]
  simp [← hz]

theorem spec24 {t p fr g : ByteArray} {q un sq id qos : Int} {rt dup : Bool} {sl : Value} {n : Nat} {cs : List Value} {H : AHeap} (h : SliceAt H 4 sl n cs) :
    CallW E 24 [.agg (msgV t p q rt sl fr un sq g).toArray, .int .i64 qos, .int .i64 id, .bool dup] H fun r H' => r = .agg (pubV id qos dup rt t p sl).toArray ∧ Ext H H' := by
  obtain ⟨a, m, c, rfl⟩ := slice_shape h
  refine call24 (by simp) ?_
  simp only [strip, bodyOf, Try.f24, getD_body, keepN, bareOp_mk, lessOp_mk, lapp_cons, lapp_nil, List.map_cons, List.map_nil, array_toList, ↓reduceIte, Nat.reduceEqDiff, Bool.false_eq_true]
  have hg : (H.alloc (.cells (msgV t p q rt (.slice a m c) fr un sq g) true 0)).get H.size = .cells (msgV t p q rt (.slice a m c) fr un sq g) true 0 := AHeap.get_alloc_same _ _
  have hx : Ext H (H.alloc (.cells (msgV t p q rt (.slice a m c) fr un sq g) true 0)) := Ext.alloc _ _
  have m0 : (msgV t p q rt (.slice a m c) fr un sq g)[0]? = some (.string t) := rfl
  have m1 : (msgV t p q rt (.slice a m c) fr un sq g)[1]? = some (.string p) := rfl
  have m3 : (msgV t p q rt (.slice a m c) fr un sq g)[3]? = some (.bool rt) := rfl
  have m4 : (msgV t p q rt (.slice a m c) fr un sq g)[4]? = some (.slice a m c) := rfl
  have hv : vcells (.agg (msgV t p q rt (.slice a m c) fr un sq g).toArray) = msgV t p q rt (.slice a m c) fr un sq g := rfl
  generalize msgV t p q rt (.slice a m c) fr un sq g = M at *
  have hs1 : (H.alloc (.cells M true 0)).size = H.size + 1 := rfl
  generalize hH : H.alloc (.cells M true 0) = H1 at *
  obtain ⟨zs, hz, hzl⟩ : ∃ zs, azero E 40 = some zs ∧ zs.length = 26 := ⟨_, zero40, rfl⟩
  have hg2 : (H1.alloc (.cells zs true 0)).get H.size = .cells M true 0 := by rw [get_alloc, if_neg (by omega)]; exact hg
  have hg3 : (H1.alloc (.cells zs true 0)).get H1.size = .cells zs true 0 := AHeap.get_alloc_same _ _
  have hx2 : Ext H (H1.alloc (.cells zs true 0)) := hx.trans (Ext.alloc _ _)
  generalize hH2 : H1.alloc (.cells zs true 0) = H2 at *
  simp (disch := first | assumption | simp) only [↓wbD, wbU, ↓aop, ↓reduceIte, Nat.reduceEqDiff, Nat.reduceLT, reduceCtorEq, goInt, pairs, hv, hH, hz, hH2, fa31_0, fa31_1, fa31_3, fa31_4, Nat.zero_add, ld_cell ty9 rfl hg2, ld_cell ty29 rfl hg2, ld_cell ty4 rfl hg2, m0, m1, m3, m4, pairs, build40, st40 hg3 hzl, ld40 (AHeap.get_set_same H2 H1.size (.cells (pubV id qos dup rt t p (.slice a m c)) true 0)) rfl]
  refine ⟨hx2.size, fun b hb => ?_⟩
  rw [AHeap.get_set_ne _ _ (by omega)]
  exact hx2.get b hb
end Go.Proofs.Ytlmcjfnignbdoaa.Abs
