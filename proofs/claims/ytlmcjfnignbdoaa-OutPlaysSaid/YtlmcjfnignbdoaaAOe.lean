/-
  A part of a law's proof.
-/
import Derived.Test.YtlmcjfnignbdoaaAOd
namespace Go.Proofs.Ytlmcjfnignbdoaa.Abs
open Go AbsYtlmcjfnignbdoaa
set_option maxRecDepth 100000
set_option maxHeartbeats 2000000
set_option linter.unusedSimpArgs false
set_option linter.unusedVariables false
theorem sl3 {H : AHeap} {b n k : Nat} {cs : List Value} (hg : H.get b = .cells cs true 11) (hk : k + 1 ≤ n) : aslice E H 50 (.slice (some ⟨b, 0, none⟩) n n) (some (.int .i64 (k : Int))) (some (.int .i64 ((k + 1 : Nat) : Int))) (some (.int .i64 (n : Int))) = some (.slice (some ⟨b, k * 11, some 1⟩) 1 (n - k)) := by
  have h1 : ((k + 1 : Nat) : Int) ≤ (n : Int) := by omega
  have h2 : (0 : Int) ≤ ((k + 1 : Nat) : Int) := by omega
  have h3 : (k : Int) ≤ ((k + 1 : Nat) : Int) := by omega
  simp only [aslice, ty50, ty75, abound, szOk, hg]
  simp [h1, h3, -Int.natCast_add]
theorem sl_to {H : AHeap} {b n k : Nat} {cs : List Value} (hg : H.get b = .cells cs true 11) (hk : k ≤ n) : aslice E H 50 (.slice (some ⟨b, 0, none⟩) n n) none (some (.int .i64 (k : Int))) none = some (.slice (some ⟨b, 0, none⟩) k n) := by
  simp only [aslice, ty50, ty75, abound, szOk, hg]
  simp [hk]
theorem sl_from {H : AHeap} {b n k j : Nat} {cs : List Value} (hg : H.get b = .cells cs true 11) (hn : n = k + 1 + j) : aslice E H 50 (.slice (some ⟨b, 0, none⟩) n n) (some (.int .i64 ((k + 1 : Nat) : Int))) none none = some (.slice (some ⟨b, (k + 1) * 11, none⟩) j j) := by
  have h1 : ((k + 1 : Nat) : Int) ≤ (n : Int) := by omega
  have h2 : n - (k + 1) = j := by omega
  simp only [aslice, ty50, ty75, abound, szOk, hg]
  simp [h1, h2, -Int.natCast_add]
theorem sl_last {H : AHeap} {b n k : Nat} {cs : List Value} (hg : H.get b = .cells cs true 11) (hk : k + 1 = n) : aslice E H 50 (.slice (some ⟨b, 0, none⟩) k n) (some (.int .i64 (k : Int))) (some (.int .i64 (n : Int))) none = some (.slice (some ⟨b, k * 11, none⟩) 1 1) := by
  have h1 : n - k = 1 := by omega
  have h2 : k ≤ n := by omega
  simp only [aslice, ty50, ty75, abound, szOk, hg]
  simp [h1, h2]
theorem app_del {H : AHeap} {b n k j : Nat} {cs : List Value} (hg : H.get b = .cells cs true 11) (hl : cs.length = n * 11) (hn : n = k + 1 + j) (hone : cs.all oneCell = true) :
    ∃ cs' H', abuiltin E H .append [50, 50] [.slice (some ⟨b, 0, none⟩) k n, .slice (some ⟨b, (k + 1) * 11, none⟩) j j] = some (.slice (some ⟨b, 0, none⟩) (k + j) n, H') ∧ H'.get b = .cells cs' true 11 ∧ cs'.length = n * 11 ∧ cs'.take ((k + j) * 11) = cs.take (k * 11) ++ cs.drop ((k + 1) * 11) ∧ H'.size = H.size ∧ ∀ c, c ≠ b → H'.get c = H.get c := by
  have hz := zero75
  have hfit : (k + 1) * 11 + j * 11 ≤ cs.length := by omega
  have hsrc : srcCells H 11 (.slice (some ⟨b, (k + 1) * 11, none⟩) j j) = some (j, cs.drop ((k + 1) * 11)) := by
    simp only [srcCells, takeCells, hg]
    rw [if_pos hfit, List.take_of_length_le (by rw [List.length_drop]; omega)]; rfl
  have h1 : k + j ≤ n := by omega
  by_cases h0 : j = 0
  · subst h0
    refine ⟨cs, H, ?_, hg, hl, ?_, rfl, fun _ _ => rfl⟩
    · simp only [abuiltin, aappend, ty50, ty75, hz, hsrc]
      simp [TK.isInt, hg, show k ≤ n by omega]
    · rw [List.drop_eq_nil_of_le (by omega), List.append_nil]; rfl
  · have hd : (cs.drop ((k + 1) * 11)).length = j * 11 := by rw [List.length_drop]; omega
    have hone' : (cs.drop ((k + 1) * 11)).all oneCell = true := by
      rw [List.all_eq_true] at hone ⊢
      exact fun x hx => hone x (List.mem_of_mem_drop hx)
    refine ⟨splice cs (k * 11) (cs.drop ((k + 1) * 11)), H.set b (.cells (splice cs (k * 11) (cs.drop ((k + 1) * 11))) true 11), ?_, AHeap.get_set_same _ _ _, ?_, ?_, AHeap.size_set _ _ _, fun c hc => AHeap.get_set_ne _ _ (Ne.symm hc)⟩
    · have hst : astoreAt H b (k * 11) (cs.drop ((k + 1) * 11)) = some (H.set b (.cells (splice cs (k * 11) (cs.drop ((k + 1) * 11))) true 11)) := by
        simp only [astoreAt, hg, hone']
        rw [if_pos (by simp [hd]; omega)]
      simp only [abuiltin, aappend, ty50, ty75, hz, hsrc]
      simp [TK.isInt, hg, h1, h0, hst]
    · simp only [splice, List.length_append, List.length_take, hd, List.length_drop]; omega
    · simp only [splice]
      rw [List.take_append_of_le_length (by simp only [List.length_append, List.length_take, hd]; omega), List.take_of_length_le (by simp only [List.length_append, List.length_take, hd]; omega)]
theorem clear_last {H : AHeap} {b k n : Nat} {cs : List Value} (hg : H.get b = .cells cs true 11) (hl : cs.length = (k + 1) * 11) : ∃ zs, zs.length = 11 ∧ abuiltin E H .clear [50] [.slice (some ⟨b, k * 11, none⟩) 1 1] = some (.tuple #[], H.set b (.cells (cs.take (k * 11) ++ zs) true 11)) := by
  refine ⟨[.int .i64 0, .int .i64 0, .string ⟨#[]⟩, .string ⟨#[]⟩, .int .i64 0, .bool false, .slice none 0 0, .string ⟨#[]⟩, .int .i64 0, .int .i64 0, .string ⟨#[]⟩], rfl, ?_⟩
  have hd : cs.drop (k * 11 + 11) = [] := List.drop_eq_nil_of_le (by omega)
  have hle : k * 11 + 11 ≤ cs.length := by omega
  simp only [abuiltin, ty50, ty75, zero75, reps]
  simp [astoreAt, hg, splice, oneCell, hd, hle]
theorem spec69 {H : AHeap} {v : Value} {F : FS} {k : Nat} (h : Own H 11 v F.length (fcells F)) (hm : Mems H F) (hk : k < F.length) (hF : F.length ≤ 100) : CallW E 69 [v, .int .i64 (k : Int), .int .i64 ((k + 1 : Nat) : Int)] H fun r H' =>
    OwnC H' 11 r (F.eraseIdx k).length (fcells (F.eraseIdx k)) ∧ But (fun b => b ∈ blkOf v) H H' ∧ Kept H H' ∧ ∀ b ∈ blkOf r, b ∈ blkOf v := by
  refine call69 (by simp) ?_
  simp only [strip, bodyOf, Try.f69, getD_body, keepN, bareOp_mk, lessOp_mk, lapp_cons, lapp_nil, List.map_cons, List.map_nil, array_toList, ↓reduceIte, Nat.reduceEqDiff, Bool.false_eq_true]
  have hone : (fcells F).all oneCell = true := by
    rw [List.all_eq_true]
    intro x hx
    obtain ⟨p, hp, hx⟩ := List.mem_flatMap.1 hx
    exact List.all_eq_true.1 (Mem.onef (hm p hp)) x hx
  rcases h with ⟨_, h0, _⟩ | ⟨b, rfl, hg, hl, hb⟩
  · omega
  obtain ⟨j, hn⟩ : ∃ j, F.length = k + 1 + j := ⟨F.length - (k + 1), by omega⟩
  have hlen : ∀ (K : AHeap) (c n : Nat) (ts : List Nat), abuiltin E K .len (50 :: ts) [.slice (some ⟨b, 0, none⟩) n c] = some (goInt n, K) := fun K c n ts => by simp [abuiltin, ty50]
  have hne : ¬ (k : Int) = ((k + 1 : Nat) : Int) := by omega
  obtain ⟨cs', H1, ha, g1, l1, t1, s1, k1⟩ := app_del hg hl hn hone
  obtain ⟨zs, hz, hc⟩ := clear_last (n := F.length) (k := k + j) g1 (by rw [l1, hn]; omega)
  simp (disch := first | assumption | simp) only [↓wbD, wbU, ↓aop, ↓reduceIte, Nat.reduceEqDiff, Nat.reduceLT, reduceCtorEq, goInt, pairs, hlen, sl3 hg (show k + 1 ≤ F.length by omega), hne, decide_false, sl_to hg (show k ≤ F.length by omega), sl_from hg hn, ha, sl_last g1 (show k + j + 1 = F.length by omega), hc]
  have hel : (F.eraseIdx k).length = k + j := by rw [List.length_eraseIdx_of_lt hk]; omega
  have hce : fcells (F.eraseIdx k) = cs'.take ((k + j) * 11) := by rw [t1, fcells, chunk_erase fcell_len]
  refine ⟨.inr ⟨b, F.length, none, zs, by rw [hel], by rw [hce]; exact AHeap.get_set_same _ _ _, ?_, ?_, .inl rfl, by rw [AHeap.size_set]; omega⟩, ⟨by rw [AHeap.size_set]; omega, fun c hc hne => ?_⟩, ⟨by rw [AHeap.size_set]; omega, fun c hc ys wr hy => ?_⟩, fun c hc => by simpa [blkOf] using hc⟩
  · rw [chunk_len fcell_len]
  · rw [hel, hz]; omega
  · have hcb : c ≠ b := fun e => hne (by simp [blkOf, e])
    rw [AHeap.get_set_ne _ _ (Ne.symm hcb)]; exact k1 c hcb
  · have hcb : c ≠ b := by rintro rfl; rw [hg] at hy; cases hy
    rw [AHeap.get_set_ne _ _ (Ne.symm hcb), k1 c hcb]; exact hy
theorem erase_map {α β : Type} (f : α → β) (l : List α) (k : Nat) : (l.map f).eraseIdx k = (l.eraseIdx k).map f := by
  rw [List.eraseIdx_eq_take_drop_succ, List.eraseIdx_eq_take_drop_succ, List.map_append, List.map_take, List.map_drop]
theorem erase_at : ∀ (l : List Int) (k : Nat) (hn : l.Nodup) {hk : k < l.length}, l.erase l[k] = l.eraseIdx k
  | [], k, _, hk => by simp at hk
  | a :: l, 0, _, _ => by simp
  | a :: l, k + 1, hn, hk => by
    have hk' : k < l.length := by simpa using hk
    have hne : ¬ a = l[k] := fun e => (List.nodup_cons.1 hn).1 (e ▸ List.getElem_mem hk')
    rw [List.getElem_cons_succ, List.erase_cons, if_neg (by simpa using hne), erase_at l k (List.nodup_cons.1 hn).2, List.eraseIdx_cons_succ]
theorem ids_erase {F : FS} {k : Nat} (hk : k < F.length) (hn : (ids F).Nodup) : (ids F).erase (F[k]).1.id = ids (F.eraseIdx k) := by
  have h1 : (ids F)[k]'(by simpa using hk) = (F[k]).1.id := by simp
  rw [← h1, erase_at _ _ hn, List.eraseIdx_eq_take_drop_succ, List.eraseIdx_eq_take_drop_succ]
  simp [ids]
theorem OutI.bm {H : AHeap} {D : Nat → Prop} {bo bp bm : Nat} {last : Int} {F : FS} (h : OutI H D bo bp bm last F) : bo ≠ bm := by
  rintro rfl
  obtain ⟨es, clk, k1, _⟩ := h.pid.mp
  obtain ⟨v, g1, _⟩ := h.go
  rw [g1] at k1; cases k1
theorem spec59 {H : AHeap} {D : Nat → Prop} {bo bp bm : Nat} {last : Int} {F : FS} {k : Nat} (h : OutI H D bo bp bm last F) (hk : k < F.length) (hF : F.length ≤ 100) (hn : (ids F).Nodup) :
    CallW E 59 [ptr bo, .int .i64 (k : Int)] H fun r H' => OutI H' (Grow D H H') bo bp bm last (F.eraseIdx k) ∧ Did D H H' := by
  refine call59 (by simp) ?_
  simp only [strip, bodyOf, Try.f59, getD_body, keepN, bareOp_mk, lessOp_mk, lapp_cons, lapp_nil, List.map_cons, List.map_nil, array_toList, ↓reduceIte, Nat.reduceEqDiff, Bool.false_eq_true]
  obtain ⟨v, g0, ow0, dv⟩ := h.go
  have c0 : ∀ v : Value, ([ptr bp, v] : List Value)[0]? = some (ptr bp) := fun _ => rfl
  have c1 : ∀ v : Value, ([ptr bp, v] : List Value)[1]? = some v := fun _ => rfl
  obtain ⟨b, c, ex, sp, hve, hg, hb⟩ := own_at ow0 hk
  have hid : (fcells F ++ sp)[k * 11]? = some (.int .i64 (F[k]).1.id) := by
    have := fcells_get (sp := sp) hk (show 0 < 11 by omega)
    simpa [fcell] using this
  have hia := ia_slice (E := E) ty50 ty75 (B := b) (o := 0) (c := c) (ex := ex) (k := .i64) hk
  rw [← hve] at hia
  simp (disch := first | assumption | simp) only [↓wbD, wbU, ↓aop, ↓reduceIte, Nat.reduceEqDiff, Nat.reduceLT, reduceCtorEq, goInt, pairs, fa52_0, fa52_1, Nat.zero_add, ld_cell ty49 rfl g0, ld_cell ty50 rfl g0, c0, c1, hia, fa75_0, Nat.add_zero, ld_cell ty3 rfl hg, hid]
  refine (spec68 h.pid).mono ?_
  rintro r H1 ⟨rfl, P1, d1⟩
  have s1 := d1.size
  have g1 : H1.get bo = .cells [ptr bp, v] true 0 := by rw [d1.but.get _ (h.lt _ h.own.1) h.bm]; exact g0
  have hbmv : bm ∉ blkOf v := by obtain ⟨es, clk, k1, _⟩ := h.pid.mp; exact ow0.offm k1
  have ow1 : OwnC H1 11 v F.length (fcells F) := ow0.keep s1 fun b hb => d1.but.get b (ow0.sz hb).2 (fun e => hbmv (e ▸ hb))
  have m1 : Mems H1 F := h.mem.keep d1.kept
  simp (disch := first | assumption | simp) only [↓wbD, wbU, ↓aop, ↓reduceIte, Nat.reduceEqDiff, Nat.reduceLT, reduceCtorEq, goInt, pairs, fa52_1, Nat.zero_add, ld_cell ty50 rfl g1, c1]
  refine (spec62 ow1 m1 hF).mono ?_
  rintro r2 H2 ⟨_, ow2, x2, b2⟩
  have ow2 := ow2 (by omega)
  have s2 := x2.size
  have hw := wrap_nat (n := k) (by omega)
  simp (disch := first | assumption | simp) only [↓wbD, wbU, ↓aop, ↓reduceIte, Nat.reduceEqDiff, Nat.reduceLT, reduceCtorEq, goInt, pairs, hw]
  refine (spec69 ow2 (m1.keep (x2.did (D := D)).kept) hk hF).mono ?_
  rintro r3 H3 ⟨ow3, but3, kept3, b3⟩
  have s3 := kept3.size
  have nb : ∀ c, c < H1.size → ¬ c ∈ blkOf r2 := fun c hc hm => by have := b2 c hm; omega
  have g3 : H3.get bo = .cells [ptr bp, v] true 0 := by
    have := h.lt _ h.own.1
    rw [but3.get _ (by omega) (nb _ (by omega)), x2.get _ (by omega)]; exact g1
  have hst := st_cell (E := E) (t := 50) (o := 1) (v := r3) ty50 rfl g3 (by simp) ow3.shape.1 ow3.shape.2
  rw [show splice [ptr bp, v] 1 [r3] = [ptr bp, r3] from rfl] at hst
  simp (disch := first | assumption | simp) only [↓wbD, wbU, ↓aop, ↓reduceIte, Nat.reduceEqDiff, Nat.reduceLT, reduceCtorEq, goInt, pairs, fa52_1, Nat.zero_add, hst]
  have d4 : Did (fun b => b = bo) H3 (H3.set bo (.cells [ptr bp, r3] true 0)) := did_set rfl (fun cs wr e => by rw [g3] at e; cases e)
  have D2 : Did D H H2 := (d1.mono fun b _ hb => hb ▸ h.own.2.2).trans x2.did
  have D3 : Did D H H3 := D2.trans ⟨⟨s3, fun c hc hn' => but3.get c hc (fun hm => hn' (.inr ⟨by have := b2 c hm; omega, by omega⟩))⟩, kept3⟩
  have D4 : Did D H (H3.set bo (.cells [ptr bp, r3] true 0)) := D3.trans (d4.mono fun b _ hb => .inl (hb ▸ h.own.1))
  have kk : ∀ c, c < H1.size → c ≠ bo → (H3.set bo (.cells [ptr bp, r3] true 0)).get c = H1.get c := fun c hc hne => by
    rw [AHeap.get_set_ne _ _ (Ne.symm hne), but3.get _ (by omega) (nb _ hc), x2.get _ hc]
  refine ⟨⟨⟨r3, AHeap.get_set_same _ _ _, ow3.keep (by rw [AHeap.size_set]; exact Nat.le_refl _) fun b hb => AHeap.get_set_ne _ _ (by rintro rfl; exact ow3.off g3 (by omega) hb), fun b hb => .inr ⟨?_, ?_⟩⟩, ?_, ?_, ⟨.inl h.own.1, .inl h.own.2.1, .inl h.own.2.2⟩, h.ne, ?_⟩, D4⟩
  · have := b2 b (b3 b hb); omega
  · rw [AHeap.size_set]; exact (ow3.sz hb).2
  · rw [ids_erase hk hn] at P1
    exact P1.keep (by rw [AHeap.size_set]; omega) (kk _ P1.lt.1 (Ne.symm h.ne)) (kk _ P1.lt.2 (Ne.symm h.bm))
  · exact fun p hp => (h.mem p (List.mem_of_mem_eraseIdx hp)).keep D4.kept
  · rintro b (hb | hb)
    · exact Nat.lt_of_lt_of_le (h.lt b hb) D4.size
    · exact hb.2
end Go.Proofs.Ytlmcjfnignbdoaa.Abs
