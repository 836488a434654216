/-
  Parts of a law's proof.
-/
import Derived.Test.YtjkhhdknplelcaaGreatDoorABxqbJ
import Derived.Test.YtjkhhdknplelcaaGreatDoorAPraJ
namespace Go.Proofs.YtjkhhdknplelcaaGreatDoor.AbsB
open Go AbsYtjkhhdknplelcaaGreatDoor Abs
set_option maxRecDepth 100000
set_option maxHeartbeats 4000000
set_option linter.unusedSimpArgs false
set_option linter.unusedVariables false
attribute [local irreducible] afterS afterOpS opSK OpsS TrS CodeS condS condW thenS thenQ guardS guardTS outS drawS trSK consS
theorem ReadP.det {pl : Int} {s : ByteArray} {p : Nat} {r r' : Except (Nat × Nat × Nat) (List Pr × Nat)} (h : ReadP pl s p r) (h' : ReadP pl s p r') : r = r' := by
 unfold ReadP at h h'
 cases hv : varR s p with
 | error e => obtain ⟨k,q⟩ := e; rw [hv] at h h'; exact h.trans h'.symm
 | ok a =>
  obtain ⟨n,q⟩ := a
  rw [hv] at h h'
  simp only at h h'
  cases hw : rawR s q n with
  | error e => obtain ⟨k,q'⟩ := e; rw [hw] at h h'; exact h.trans h'.symm
  | ok b =>
   obtain ⟨all,q'⟩ := b
   rw [hw] at h h'
   simp only at h h'
   obtain ⟨x,h1,h2⟩ := h
   obtain ⟨y,h3,h4⟩ := h'
   obtain rfl := h1.det h3
   cases x with
   | error e => obtain ⟨k,rr,a⟩ := e; exact h2.trans h4.symm
   | ok l => exact h2.trans h4.symm
theorem MadeR.det {f : Int} {D : ByteArray → Except E3 Pk → Prop} (hD : ∀ b r r',D b r → D b r' → r = r') {w : ByteArray ⊕ (Nat × Nat)} {r r' : Except E3 (Int × ByteArray)} (h : MadeR f D w r) (h' : MadeR f D w r') : r = r' := by
 unfold MadeR at h h'
 cases w with
 | inr e => obtain ⟨k,q⟩ := e; exact h.trans h'.symm
 | inl b =>
  obtain ⟨x,h1,h2⟩ := h
  obtain ⟨y,h3,h4⟩ := h'
  obtain rfl := hD _ _ _ h1 h3
  cases x with
  | error e => exact h2.trans h4.symm
  | ok l => exact h2.trans h4.symm
theorem valueR_k {id : Int} {s : ByteArray} {p k q : Nat} (h : valueR id s p = .error (k,q)) : k ≠ 0 := by
 unfold valueR at h
 split at h
 ·cases h1 : textR s p with
  | error e =>
   obtain ⟨k',q'⟩ := e
   rw [h1] at h
   simp only [Except.error.injEq,Prod.mk.injEq] at h
   have := textR_k h1; omega
  | ok a =>
   obtain ⟨a,q1⟩ := a
   rw [h1] at h
   simp only at h
   cases h2 : textR s q1 with
   | error e =>
    obtain ⟨k',q'⟩ := e
    rw [h2] at h
    simp only [Except.error.injEq,Prod.mk.injEq] at h
    have := textR_k h2; omega
   | ok b => rw [h2] at h; cases h
 ·cases h1 : rdA (typI id) s p with
  | error e =>
   obtain ⟨k',q'⟩ := e
   rw [h1] at h
   simp only [Except.error.injEq,Prod.mk.injEq] at h
   have := rdA_k h1; omega
  | ok a => rw [h1] at h; cases h
theorem oneR_k {pl : Int} {s : ByteArray} {p k r a : Nat} {ahead : List Pr} (h : oneR pl s p ahead = .error (k,r,a)) : k ≠ 0 := by
 unfold oneR at h
 cases hv : varR s p with
 | error e =>
  obtain ⟨k',q'⟩ := e
  rw [hv] at h
  simp only [Except.error.injEq,Prod.mk.injEq] at h
  have := varR_k hv; omega
 | ok b =>
  obtain ⟨id,q1⟩ := b
  rw [hv] at h
  simp only at h
  cases hg : groundP pl ahead (id : Int) with
  | some e =>
   obtain ⟨k',r'⟩ := e
   rw [hg] at h
   simp only [Except.error.injEq,Prod.mk.injEq] at h
   have := groundP_k hg; omega
  | none =>
   rw [hg] at h
   simp only at h
   cases hw : valueR id s q1 with
   | error e =>
    obtain ⟨k',q'⟩ := e
    rw [hw] at h
    simp only [Except.error.injEq,Prod.mk.injEq] at h
    have := valueR_k hw; omega
   | ok b =>
    obtain ⟨y,q2⟩ := b
    rw [hw] at h
    simp only at h
    split at h
    ·cases h
    ·simp only [Except.error.injEq,Prod.mk.injEq] at h; omega
theorem AllP.k {pl : Int} {s : ByteArray} {p : Nat} {l : List Pr} {r : Except (Nat × Nat × Nat) (List Pr)} (h : AllP pl s p l r) : ∀ k rr a,r = .error (k,rr,a) → k ≠ 0 := by
 induction h with
 | nil h => intro k rr a hm; cases hm
 | bad h ho => intro k rr a hm; injection hm with hm; subst hm; exact oneR_k ho
 | step h ho hr ih => exact ih
end Go.Proofs.YtjkhhdknplelcaaGreatDoor.AbsB
namespace Go.Proofs.YtjkhhdknplelcaaGreatDoor.AbsB
open Go AbsYtjkhhdknplelcaaGreatDoor Abs
set_option maxRecDepth 100000
set_option maxHeartbeats 4000000
set_option linter.unusedSimpArgs false
set_option linter.unusedVariables false
theorem read_encA {pl : Int} {l : List Pr} {A c t : ByteArray} (he : encP pl l = .ok c) (hpl : ∀ x ∈ l,plain x) (hz : c.size ≤ 700000) : ReadP pl (A ++ c ++ t) A.size (.ok (l,A.size + c.size)) := by
 unfold encP at he
 cases hc : chk pl [] l with
 | some e => rw [hc] at he; cases he
 | none =>
  rw [hc] at he
  simp only at he
  cases hr : runW emp (l.flatMap actsP) with
  | inr e => obtain ⟨k,q⟩ := e; rw [hr] at he; cases he
  | inl C =>
   rw [hr] at he
   simp only [Except.ok.injEq] at he
   subst he
   obtain ⟨D,hD,rfl⟩ := runW_cat hr
   rw [emp_app'] at *
   rw [size_app] at hz
   obtain ⟨A',hA',hall⟩ := all_mid hc hpl hD l.length 0 (by omega)
   have : A' = emp := by
    have : some emp = some A' := hA'
    injection this with this; exact this.symm
   subst this
   unfold ReadP
   have e1 : A ++ (str (enc D.size) ++ D) ++ t = A ++ str (enc D.size) ++ (D ++ t) := by simp only [app_assoc]
   have hv := var_mid A (D ++ t) (N := D.size) (by omega)
   rw [e1,hv]
   simp only
   have e2 : A ++ str (enc D.size) ++ (D ++ t) = (A ++ str (enc D.size)) ++ D ++ t := by simp only [app_assoc]
   have es : A.size + vsize D.size = (A ++ str (enc D.size)).size := by rw [size_app,str_size,enc_len]
   rw [e2,es,raw_mid]
   simp only
   exact ⟨.ok l,hall,by simp only [size_app,Except.ok.injEq,Prod.mk.injEq,true_and]; omega⟩
def plainP (x : Pr) : Pr := if typI x.id = 9 then ⟨x.id,0,x.s,x.v⟩ else if typI x.id = 6 ∨ typI x.id = 7 then ⟨x.id,0,x.s,emp⟩ else ⟨x.id,x.n,emp,emp⟩
theorem plainP_id (x : Pr) : (plainP x).id = x.id := by
 unfold plainP
 repeat' split
 all_goals rfl
theorem plain_plainP (x : Pr) : plain (plainP x) := by
 unfold plain
 rw [plainP_id]
 have := typ_cases x.id
 unfold plainP
 by_cases h9 : typI x.id = 9
 ·rw [if_pos h9]; exact ⟨fun h => by omega,fun _ => rfl,fun h => by omega⟩
 ·rw [if_neg h9]
  by_cases h6 : typI x.id = 6 ∨ typI x.id = 7
  ·rw [if_pos h6]; exact ⟨fun h => by omega,fun _ => rfl,fun _ => rfl⟩
  ·rw [if_neg h6]; exact ⟨fun _ => ⟨rfl,rfl⟩,fun h => by omega,fun _ => rfl⟩
theorem plainP_plain {x : Pr} (h : plain x) : plainP x = x := by
 obtain ⟨p1,p2,p3⟩ := h
 have := typ_cases x.id
 obtain ⟨id,n,s,v⟩ := x
 simp only at *
 unfold plainP
 simp only
 by_cases h9 : typI id = 9
 ·rw [if_pos h9,p2 (by omega)]
 ·rw [if_neg h9]
  by_cases h6 : typI id = 6 ∨ typI id = 7
  ·rw [if_pos h6,p2 (by omega),p3 h6]
  ·rw [if_neg h6,(p1 (by omega)).1,(p1 (by omega)).2]
theorem map_plain : ∀ {l : List Pr},(∀ x ∈ l,plain x) → l.map plainP = l
 | [],_ => rfl
 | x :: l,h => by rw [List.map_cons,plainP_plain (h x (by simp)),map_plain fun y hy => h y (by simp [hy])]
theorem numOk_plainP (x : Pr) : numOk (plainP x) = numOk x := by
 by_cases h6 : typI x.id < 6
 ·have hn : (plainP x).n = x.n := by
   unfold plainP
   rw [if_neg (by omega),if_neg (by omega)]
  unfold numOk
  rw [plainP_id,hn]
 ·unfold numOk
  rw [plainP_id]
  have h1 : ¬ (x.id = 1 ∨ x.id = 23 ∨ x.id = 25 ∨ x.id = 36 ∨ x.id = 37 ∨ x.id = 40 ∨ x.id = 41 ∨ x.id = 42) := by
   intro h
   apply h6
   rcases h with h | h | h | h | h | h | h | h <;> rw [h] <;> decide
  have h2 : ¬ (x.id = 11 ∨ x.id = 33 ∨ x.id = 35 ∨ x.id = 39) := by
   intro h
   apply h6
   rcases h with h | h | h | h <;> rw [h] <;> decide
  rw [if_neg h1,if_neg h2,if_neg h1,if_neg h2]
theorem hasId_plain (l : List Pr) (id : Int) : hasId (l.map plainP) id = hasId l id := by
 unfold hasId
 rw [List.any_map]
 congr 1
 funext x
 simp only [Function.comp,plainP_id]
theorem badP_plain (pl : Int) (a : List Pr) (x : Pr) : badP pl (a.map plainP) (plainP x) = badP pl a x := by
 unfold badP groundP
 rw [plainP_id,hasId_plain,List.length_map,numOk_plainP]
theorem chk_plain (pl : Int) : ∀ (l a : List Pr),chk pl (a.map plainP) (l.map plainP) = chk pl a l
 | [],a => rfl
 | x :: l,a => by
  simp only [List.map_cons,chk,badP_plain,List.length_map]
  have := chk_plain pl l (a ++ [x])
  rw [List.map_append] at this
  simp only [List.map_cons,List.map_nil] at this
  rw [this]
theorem runW_plain1 (x : Pr) (b : ByteArray) (r : List Act) : runW b (actsP (plainP x) ++ r) = runW b (actsP x ++ r) := by
 unfold actsP
 rw [plainP_id]
 have hc := typ_cases x.id
 by_cases h9 : typI x.id = 9
 ·rw [if_pos h9,if_pos h9]
  unfold plainP
  rw [if_pos h9]
 ·rw [if_neg h9,if_neg h9]
  by_cases h0 : typI x.id = 0
  ·rw [if_pos h0,if_pos h0]
  ·rw [if_neg h0,if_neg h0]
   have key : actW ⟨typI x.id,(plainP x).n,(plainP x).s⟩ = actW ⟨typI x.id,x.n,x.s⟩ := by
    unfold plainP
    rw [if_neg h9]
    by_cases h6 : typI x.id = 6 ∨ typI x.id = 7
    ·rw [if_pos h6]
     rcases h6 with h | h <;> rw [h] <;> rfl
    ·rw [if_neg h6]
     have h7 : typI x.id = 1 ∨ typI x.id = 2 ∨ typI x.id = 4 ∨ typI x.id = 5 := by omega
     rcases h7 with h | h | h | h <;> rw [h] <;> rfl
   simp only [List.cons_append,List.nil_append,runW]
   cases actW ⟨5,x.id,emp⟩ with
   | inr e => rfl
   | inl m => simp only [key]
theorem runW_plain : ∀ (l : List Pr) (b : ByteArray),runW b ((l.map plainP).flatMap actsP) = runW b (l.flatMap actsP)
 | [],b => rfl
 | x :: l,b => by
  simp only [List.map_cons,List.flatMap_cons]
  rw [runW_plain1,runW_app,runW_app]
  cases runW b (actsP x) with
  | inr e => rfl
  | inl c => exact runW_plain l c
theorem encP_plain (pl : Int) (l : List Pr) : encP pl (l.map plainP) = encP pl l := by
 unfold encP
 rw [runW_plain]
 have := chk_plain pl l []
 rw [List.map_nil] at this
 rw [this]
theorem read_encP {pl : Int} {l : List Pr} {A c t : ByteArray} (he : encP pl l = .ok c) (hz : c.size ≤ 700000) : ReadP pl (A ++ c ++ t) A.size (.ok (l.map plainP,A.size + c.size)) := by
 refine read_encA (by rw [encP_plain]; exact he) (fun x hx => ?_) hz
 obtain ⟨y,_,rfl⟩ := List.mem_map.1 hx
 exact plain_plainP y
theorem numR_lt {s : ByteArray} {p k n q : Nat} (h : numR s p k = .ok (n,q)) : n < 256 ^ k := by
 unfold numR at h
 cases hb : rawR s p k with
 | error e => rw [hb] at h; cases h
 | ok a =>
  obtain ⟨b,q'⟩ := a
  rw [hb] at h
  simp only [Except.ok.injEq,Prod.mk.injEq] at h
  have h1 := (rawR_ok hb).2.2.2.2
  rw [Int.toNat_natCast] at h1
  rw [← h.1]
  have := beF_lt b b.size
  rw [h1] at this ⊢
  exact this
theorem numW_ok {n k : Nat} (h : n < 2 ^ (8 * k)) : numW (n : Int) k = .inl (numB n k) := by
 unfold numW
 rw [if_neg (by omega),Int.toNat_natCast]
theorem textR_w {s b : ByteArray} {p q : Nat} (h : textR s p = .ok (b,q)) : textW b = .inl (numB b.size 2 ++ b) ∧ b.size ≤ s.size := by
 unfold textR at h
 cases hb : binR s p with
 | error e => rw [hb] at h; cases h
 | ok a =>
  obtain ⟨v,q'⟩ := a
  rw [hb] at h
  simp only at h
  cases ht : textF v with
  | inr e => obtain ⟨k,j⟩ := e; rw [ht] at h; cases h
  | inl m =>
   rw [ht] at h
   simp only [Except.ok.injEq,Prod.mk.injEq] at h
   obtain ⟨rfl,rfl⟩ := h
   refine ⟨?_,?_⟩
   ·unfold textW
    rw [ht]
    exact binW_inl (textF_inl ht)
   ·unfold binR at hb
    cases hn : numR s p 2 with
    | error e => rw [hn] at hb; cases hb
    | ok a =>
     obtain ⟨n,q1⟩ := a
     rw [hn] at hb
     have := rawR_ok hb
     omega
theorem binR_w {s b : ByteArray} {p q : Nat} (h : binR s p = .ok (b,q)) : binW b = .inl (numB b.size 2 ++ b) ∧ b.size ≤ s.size := by
 have h1 := binR_ok h
 refine ⟨binW_inl h1.2.2,?_⟩
 unfold binR at h
 cases hn : numR s p 2 with
 | error e => rw [hn] at h; cases h
 | ok a =>
  obtain ⟨n,q1⟩ := a
  rw [hn] at h
  have := rawR_ok h
  omega
def wrb (x : Pr) : Prop := plain x ∧ (x.s.size ≤ 2048 ∧ x.v.size ≤ 2048) ∧ ∃ m,catW (actsP x) = some m ∧ m.size ≤ 4200
theorem catW_1 {a : Act} {m : ByteArray} {r : List Act} {c : ByteArray} (h : actW a = .inl m) (hr : catW r = some c) : catW (a :: r) = some (m ++ c) := by simp only [catW,h,hr]
theorem act5_ok {id : Nat} (h : id < 268435456) : actW ⟨5,(id : Int),emp⟩ = .inl (str (enc id)) := by
 show varW (id : Int) = _
 unfold varW
 rw [if_neg (by omega),Int.toNat_natCast]
theorem valueR_w {id : Nat} {s : ByteArray} {p q : Nat} {x : Pr} (hid : id < 268435456) (ht : typI id ≠ 0) (hs : s.size ≤ 2048) (hp : p ≤ s.size) (h : valueR id s p = .ok (x,q)) : wrb x := by
 have hv : (str (enc id)).size ≤ 4 := by rw [str_size,enc_len]; exact (vsize_pos id).2
 have he : emp.size = 0 := rfl
 unfold valueR at h
 by_cases h9 : typI (id : Int) = 9
 ·rw [if_pos h9] at h
  cases h1 : textR s p with
  | error e => rw [h1] at h; cases h
  | ok a =>
   obtain ⟨a,q1⟩ := a
   rw [h1] at h
   simp only at h
   cases h2 : textR s q1 with
   | error e => rw [h2] at h; cases h
   | ok b =>
    obtain ⟨b,q2⟩ := b
    rw [h2] at h
    simp only [Except.ok.injEq,Prod.mk.injEq] at h
    obtain ⟨rfl,rfl⟩ := h
    have w1 := textR_w h1
    have w2 := textR_w h2
    have s1 := numB_size a.size 2
    have s2 := numB_size b.size 2
    refine ⟨⟨fun h => ?_,fun _ => rfl,fun h => ?_⟩,⟨?_,?_⟩,?_⟩
    ·simp only at h; omega
    ·simp only at h; omega
    ·simp only; omega
    ·simp only; omega
    ·have hac : actsP ⟨id,0,a,b⟩ = [⟨5,id,emp⟩,⟨6,0,a⟩,⟨6,0,b⟩] := by unfold actsP; rw [if_pos h9]
     rw [hac]
     refine ⟨_,catW_1 (act5_ok hid) (catW_1 w1.1 (catW_1 w2.1 rfl)),?_⟩
     simp only [size_app,he]
     omega
 ·rw [if_neg h9] at h
  cases h1 : rdA (typI id) s p with
  | error e => rw [h1] at h; cases h
  | ok a =>
   obtain ⟨⟨n,a⟩,q1⟩ := a
   rw [h1] at h
   simp only [Except.ok.injEq,Prod.mk.injEq] at h
   obtain ⟨rfl,rfl⟩ := h
   have hac : actsP ⟨id,n,a,emp⟩ = [⟨5,id,emp⟩,⟨typI id,n,a⟩] := by unfold actsP; rw [if_neg h9,if_neg ht]
   have fin : ∀ m : ByteArray,m.size ≤ 2052 → actW ⟨typI id,n,a⟩ = .inl m → plain ⟨id,n,a,emp⟩ → a.size ≤ 2048 → wrb ⟨id,n,a,emp⟩ := by
    intro m hm hw hpl ha
    refine ⟨hpl,⟨ha,by simp only [he]; omega⟩,?_⟩
    rw [hac]
    refine ⟨_,catW_1 (act5_ok hid) (catW_1 hw rfl),?_⟩
    simp only [size_app,he]
    omega
   have num : ∀ k : Nat,(k = 1 ∨ k = 2 ∨ k = 4) → typI id = (k : Int) → mapN (numR s p k) = .ok ((n,a),q1) → wrb ⟨id,n,a,emp⟩ := by
    intro k hk hty hm
    cases hn : numR s p k with
    | error e => rw [hn] at hm; cases hm
    | ok b =>
     obtain ⟨N,q2⟩ := b
     rw [hn] at hm
     simp only [mapN,Except.ok.injEq,Prod.mk.injEq] at hm
     obtain ⟨⟨rfl,rfl⟩,rfl⟩ := hm
     have hlt := numR_lt hn
     have hsz := numB_size N k
     refine fin (numB N k) (by omega) ?_ ⟨fun _ => ⟨rfl,rfl⟩,fun h => ?_,fun _ => rfl⟩ (by rw [he]; omega)
     ·have hw : numW (N : Int) k = .inl (numB N k) := numW_ok (by rw [Nat.pow_mul]; exact hlt)
      rw [hty]
      rcases hk with rfl | rfl | rfl <;> exact hw
     ·simp only at h; omega
   unfold rdA at h1
   by_cases t1 : typI (id : Int) = 1
   ·rw [if_pos t1] at h1; exact num 1 (by omega) t1 h1
   rw [if_neg t1] at h1
   by_cases t2 : typI (id : Int) = 2
   ·rw [if_pos t2] at h1; exact num 2 (by omega) t2 h1
   rw [if_neg t2] at h1
   by_cases t4 : typI (id : Int) = 4
   ·rw [if_pos t4] at h1; exact num 4 (by omega) t4 h1
   rw [if_neg t4] at h1
   by_cases t5 : typI (id : Int) = 5
   ·rw [if_pos t5] at h1
    cases hn : varR s p with
    | error e => rw [hn] at h1; cases h1
    | ok b =>
     obtain ⟨N,q2⟩ := b
     rw [hn] at h1
     simp only [mapN,Except.ok.injEq,Prod.mk.injEq] at h1
     obtain ⟨⟨rfl,rfl⟩,rfl⟩ := h1
     have hlt := (varR_le hp hn).2.2
     have hsz : (str (enc N)).size ≤ 4 := by rw [str_size,enc_len]; exact (vsize_pos N).2
     refine fin (str (enc N)) (by omega) ?_ ⟨fun _ => ⟨rfl,rfl⟩,fun h => ?_,fun _ => rfl⟩ (by rw [he]; omega)
     ·rw [t5]; exact act5_ok hlt
     ·simp only at h; omega
   rw [if_neg t5] at h1
   by_cases t6 : typI (id : Int) = 6
   ·rw [if_pos t6] at h1
    cases hn : textR s p with
    | error e => rw [hn] at h1; cases h1
    | ok b =>
     obtain ⟨N,q2⟩ := b
     rw [hn] at h1
     simp only [mapS,Except.ok.injEq,Prod.mk.injEq] at h1
     obtain ⟨⟨rfl,rfl⟩,rfl⟩ := h1
     have hw := textR_w hn
     have hsz := numB_size N.size 2
     refine fin _ ?_ (by rw [t6]; exact hw.1) ⟨fun h => ?_,fun h => rfl,fun _ => rfl⟩ (by omega)
     ·rw [size_app]; omega
     ·simp only at h; omega
   rw [if_neg t6] at h1
   have t7 : typI (id : Int) = 7 := by have := typ_cases id; omega
   cases hn : binR s p with
   | error e => rw [hn] at h1; cases h1
   | ok b =>
    obtain ⟨N,q2⟩ := b
    rw [hn] at h1
    simp only [mapS,Except.ok.injEq,Prod.mk.injEq] at h1
    obtain ⟨⟨rfl,rfl⟩,rfl⟩ := h1
    have hw := binR_w hn
    have hsz := numB_size N.size 2
    refine fin _ ?_ (by rw [t7]; exact hw.1) ⟨fun h => ?_,fun h => rfl,fun _ => rfl⟩ (by omega)
    ·rw [size_app]; omega
    ·simp only at h; omega
theorem oneR_w {pl : Int} {s : ByteArray} {p q : Nat} {ahead : List Pr} {x : Pr} (hs : s.size ≤ 2048) (hp : p ≤ s.size) (h : oneR pl s p ahead = .ok (x,q)) : wrb x := by
 unfold oneR at h
 cases hv : varR s p with
 | error e => obtain ⟨k,q'⟩ := e; rw [hv] at h; cases h
 | ok a =>
  obtain ⟨id,q1⟩ := a
  rw [hv] at h
  simp only at h
  have h1 := varR_le hp hv
  cases hg : groundP pl ahead (id : Int) with
  | some e => obtain ⟨k,r⟩ := e; rw [hg] at h; cases h
  | none =>
   rw [hg] at h
   simp only at h
   cases hw : valueR id s q1 with
   | error e => obtain ⟨k,q'⟩ := e; rw [hw] at h; cases h
   | ok b =>
    obtain ⟨y,q2⟩ := b
    rw [hw] at h
    simp only at h
    split at h
    ·simp only [Except.ok.injEq,Prod.mk.injEq] at h
     obtain ⟨rfl,rfl⟩ := h
     exact valueR_w h1.2.2 (groundP_typ hg).1 hs h1.2.1 hw
    ·cases h
theorem AllP.wrbs {pl : Int} {s : ByteArray} {p : Nat} {l : List Pr} {r : Except (Nat × Nat × Nat) (List Pr)} (h : AllP pl s p l r) (hs : s.size ≤ 2048) (hp : p ≤ s.size) (hl : ∀ x ∈ l,wrb x) : ∀ m,r = .ok m → ∀ x ∈ m,wrb x := by
 induction h with
 | nil h => intro m hm; injection hm with hm; subst hm; exact hl
 | bad h ho => intro m hm; cases hm
 | step h ho hr ih =>
  have h1 := oneR_ok hp ho
  refine ih h1.2.1 fun y hy => ?_
  rcases List.mem_append.1 hy with hy | hy
  ·exact hl y hy
  ·simp only [List.mem_cons,List.not_mem_nil,or_false] at hy
   subst hy
   exact oneR_w hs hp ho
theorem flat_w : ∀ {l : List Pr},(∀ x ∈ l,wrb x) → ∃ C,catW (l.flatMap actsP) = some C ∧ C.size ≤ 4200 * l.length
 | [],_ => ⟨emp,rfl,by decide⟩
 | x :: l,h => by
  obtain ⟨_,_,m,h1,h2⟩ := h x (by simp)
  obtain ⟨C,h3,h4⟩ := flat_w (l := l) fun y hy => h y (by simp [hy])
  refine ⟨m ++ C,by rw [List.flatMap_cons]; exact catW_app h1 h3,?_⟩
  rw [size_app,List.length_cons]
  omega
theorem catW_run : ∀ {l : List Act} {C : ByteArray} (b : ByteArray),catW l = some C → runW b l = .inl (b ++ C)
 | [],C,b,h => by
  simp only [catW,Option.some.injEq] at h
  subst h
  simp only [runW,app_emp']
 | a :: l,C,b,h => by
  simp only [catW] at h
  cases ha : actW a with
  | inr e => rw [ha] at h; simp at h
  | inl m =>
   rw [ha] at h
   cases hl : catW l with
   | none => rw [hl] at h; simp at h
   | some d =>
    rw [hl] at h
    simp only [Option.some.injEq] at h
    subst h
    simp only [runW,ha]
    rw [catW_run (b ++ m) hl,app_assoc]
theorem ReadP_w {pl : Int} {s : ByteArray} {p q : Nat} {l : List Pr} (hs : s.size ≤ 2048) (hp : p ≤ s.size) (h : ReadP pl s p (.ok (l,q))) : ∃ c,encP pl l = .ok c ∧ c.size ≤ 700000 ∧ 0 < c.size ∧ (∀ x ∈ l,plain x) ∧ smallP l := by
 unfold ReadP at h
 cases hv : varR s p with
 | error e => obtain ⟨k,q'⟩ := e; rw [hv] at h; cases h
 | ok a =>
  obtain ⟨n,q1⟩ := a
  rw [hv] at h
  simp only at h
  cases hw : rawR s q1 n with
  | error e => obtain ⟨k,q'⟩ := e; rw [hw] at h; cases h
  | ok b =>
   obtain ⟨all,q2⟩ := b
   rw [hw] at h
   simp only at h
   obtain ⟨r',h1,h2⟩ := h
   have haz := rawR_ok hw
   cases r' with
   | error e => obtain ⟨k,rr,a⟩ := e; cases h2
   | ok m =>
    simp only [Except.ok.injEq,Prod.mk.injEq] at h2
    obtain ⟨rfl,rfl⟩ := h2
    have hc := h1.chk (Nat.zero_le _) (by simp) rfl _ rfl
    have hwr := h1.wrbs (by omega) (Nat.zero_le _) (by simp) _ rfl
    obtain ⟨C,hC,hz⟩ := flat_w hwr
    have hz2 : 4200 * l.length ≤ 4200 * 64 := Nat.mul_le_mul_left _ hc.2
    have hvs := vsize_pos C.size
    refine ⟨str (enc C.size) ++ C,?_,?_,?_,fun x hx => (hwr x hx).1,by omega,fun x hx => ?_⟩
    ·unfold encP
     rw [hc.1,catW_run emp hC,emp_app']
    ·rw [size_app,str_size,enc_len]; omega
    ·rw [size_app,str_size,enc_len]; omega
    ·have := (hwr x hx).2.1
     omega
set_option maxHeartbeats 8000000
attribute [local irreducible] afterS afterOpS opSK OpsS TrS CodeS condS condW thenS thenQ guardS guardTS outS drawS trSK consS
section
variable {σ : AHeap} {Q : Value → AHeap → Prop}
theorem subNe {x : Sb} {cs : Bool} : abin E σ .neq 50 cs (.agg ⟨[.string x.f,.int .i64 x.q,.bool x.nl,.bool x.ai,.int .i64 x.rt]⟩) (.agg ⟨[.string x.f,.int .i64 x.q,.bool x.nl,.bool x.ai,.int .i64 x.rt]⟩) = some (.bool false) := by
 have e1 : (x.f == x.f) = true := by rw [bytes_dec]; simp
 simp only [abin,nonNum,eqAsk,aeq,aeqs,apart,ty50,ty3,ty9,ty4,TI.isAgg,Bool.and_self,Bool.false_eq_true,List.getElem?_cons_zero,List.getElem?_cons_succ,↓reduceIte,beq_self_eq_true,Option.map_some,e1]
 rfl
theorem specKSameS {v w : Value} {l : List Sb} (h1 : DL subC 5 v l) (h2 : DL subC 5 w l) (hl : l.length ≤ 100000) (h : Q (.bool true) σ) : CallS E B 61 [v,w] σ Q := by
 have l1 := DLsb.len h1
 have l2 := DLsb.len h2
 refine call61 (by simp) ?_
 simp only [strip,bodyOf,Tryz.f61,getD_body,keepN,bareOp_mk,List.map_cons,List.map_nil,↓reduceIte,Bool.false_eq_true]
 simp only [↓sbD,sbU,decide_false,Bool.or_self,↓reduceIte,Nat.reduceEqDiff,Nat.reduceLT,reduceCtorEq,isConst,l1,l2]
 refine S_loop (fun m f σ' => σ' = σ ∧ ∃ i : Nat,m + i = l.length ∧ f 5 = .int .i64 i) l.length (Le.refl _) ⟨rfl,0,by omega,by simp only [sbU,↓reduceIte]; rfl⟩ ?_
 rintro m f σ' ⟨rfl,i,hm,f5⟩ hf
 have f0 := hf 0 (by decide) (notMem_wr (by kernel_rfl))
 have f1 := hf 1 (by decide) (notMem_wr (by kernel_rfl))
 simp only [sbU,↓reduceIte,Nat.reduceEqDiff,reduceCtorEq] at f0 f1
 clear hf
 by_cases hi : (i : Int) < (l.length : Int)
 ·have hi' : i < l.length := by omega
  have a1 := DLsb.at h1 hi'
  have a2 := DLsb.at h2 hi'
  have hw := wrap_suc (n := i) (by omega)
  generalize l[i] = x at a1 a2
  have hac : subC x = [.string x.f,.int .i64 x.q,.bool x.nl,.bool x.ai,.int .i64 x.rt] := rfl
  simp only [↓sbD,sbU,tyB,Bool.or_self,↓reduceIte,Nat.reduceEqDiff,Nat.reduceLT,Nat.reduceLeDiff,reduceCtorEq,isConst,f0,f1,f5,l1,l2,hi,a1,a2,hac,subNe,hw]
  exact ⟨_,m - 1,_,rfl,by omega,Le.refl _,rfl,i + 1,by omega,by simp only [sbU,↓reduceIte]⟩
 ·simp only [↓sbD,sbU,decide_false,Bool.or_self,↓reduceIte,Nat.reduceEqDiff,Nat.reduceLT,reduceCtorEq,isConst,f0,f5,l1,hi]
  exact downS_here h
theorem specKSameT {v w : Value} {l : List ByteArray} (h1 : DL strC1 1 v l) (h2 : DL strC1 1 w l) (hl : l.length ≤ 100000) (h : Q (.bool true) σ) : CallS E B 62 [v,w] σ Q := by
 have l1 := DLst.len h1
 have l2 := DLst.len h2
 refine call62 (by simp) ?_
 simp only [strip,bodyOf,Tryz.f62,getD_body,keepN,bareOp_mk,List.map_cons,List.map_nil,↓reduceIte,Bool.false_eq_true]
 simp only [↓sbD,sbU,decide_false,Bool.or_self,↓reduceIte,Nat.reduceEqDiff,Nat.reduceLT,reduceCtorEq,isConst,l1,l2]
 refine S_loop (fun m f σ' => σ' = σ ∧ ∃ i : Nat,m + i = l.length ∧ f 5 = .int .i64 i) l.length (Le.refl _) ⟨rfl,0,by omega,by simp only [sbU,↓reduceIte]; rfl⟩ ?_
 rintro m f σ' ⟨rfl,i,hm,f5⟩ hf
 have f0 := hf 0 (by decide) (notMem_wr (by kernel_rfl))
 have f1 := hf 1 (by decide) (notMem_wr (by kernel_rfl))
 simp only [sbU,↓reduceIte,Nat.reduceEqDiff,reduceCtorEq] at f0 f1
 clear hf
 by_cases hi : (i : Int) < (l.length : Int)
 ·have hi' : i < l.length := by omega
  have a1 := DLst.at h1 hi'
  have a2 := DLst.at h2 hi'
  have hw := wrap_suc (n := i) (by omega)
  generalize l[i] = x at a1 a2
  have hac : strC1 x = [.string x] := rfl
  simp only [↓sbD,sbU,tyB,decide_false,Bool.or_self,↓reduceIte,Nat.reduceEqDiff,Nat.reduceLT,reduceCtorEq,isConst,f0,f1,f5,l1,l2,hi,a1,a2,hac,hw]
  exact ⟨_,m - 1,_,rfl,by omega,Le.refl _,rfl,i + 1,by omega,by simp only [sbU,↓reduceIte]⟩
 ·simp only [↓sbD,sbU,decide_false,Bool.or_self,↓reduceIte,Nat.reduceEqDiff,Nat.reduceLT,reduceCtorEq,isConst,f0,f5,l1,hi]
  exact downS_here h
theorem specKSameI {v w : Value} {l : List Int} (h1 : DL intC 1 v l) (h2 : DL intC 1 w l) (hl : l.length ≤ 100000) (h : Q (.bool true) σ) : CallS E B 63 [v,w] σ Q := by
 have l1 := DLi.len h1
 have l2 := DLi.len h2
 refine call63 (by simp) ?_
 simp only [strip,bodyOf,Tryz.f63,getD_body,keepN,bareOp_mk,List.map_cons,List.map_nil,↓reduceIte,Bool.false_eq_true]
 simp only [↓sbD,sbU,decide_false,Bool.or_self,↓reduceIte,Nat.reduceEqDiff,Nat.reduceLT,reduceCtorEq,isConst,l1,l2]
 refine S_loop (fun m f σ' => σ' = σ ∧ ∃ i : Nat,m + i = l.length ∧ f 5 = .int .i64 i) l.length (Le.refl _) ⟨rfl,0,by omega,by simp only [sbU,↓reduceIte]; rfl⟩ ?_
 rintro m f σ' ⟨rfl,i,hm,f5⟩ hf
 have f0 := hf 0 (by decide) (notMem_wr (by kernel_rfl))
 have f1 := hf 1 (by decide) (notMem_wr (by kernel_rfl))
 simp only [sbU,↓reduceIte,Nat.reduceEqDiff,reduceCtorEq] at f0 f1
 clear hf
 by_cases hi : (i : Int) < (l.length : Int)
 ·have hi' : i < l.length := by omega
  have a1 := DLi.at h1 hi'
  have a2 := DLi.at h2 hi'
  have hw := wrap_suc (n := i) (by omega)
  generalize l[i] = x at a1 a2
  have hac : intC x = [.int .i64 x] := rfl
  simp only [↓sbD,sbU,tyB,decide_false,Bool.or_self,↓reduceIte,Nat.reduceEqDiff,Nat.reduceLT,reduceCtorEq,isConst,f0,f1,f5,l1,l2,hi,a1,a2,hac,hw]
  exact ⟨_,m - 1,_,rfl,by omega,Le.refl _,rfl,i + 1,by omega,by simp only [sbU,↓reduceIte]⟩
 ·simp only [↓sbD,sbU,decide_false,Bool.or_self,↓reduceIte,Nat.reduceEqDiff,Nat.reduceLT,reduceCtorEq,isConst,f0,f5,l1,hi]
  exact downS_here h
theorem boolEq {b cs : Bool} : abin E σ .eql 4 cs (.bool b) (.bool b) = some (.bool true) := by
 cases b <;> rfl
theorem boolNe {b cs : Bool} : abin E σ .neq 4 cs (.bool b) (.bool b) = some (.bool false) := by
 cases b <;> rfl
theorem specKSameW {v w : Value} {x : Wl} (h1 : DL propC 4 v x.props) (h2 : DL propC 4 w x.props) (hl : x.props.length ≤ 100000) (h : Q (.bool true) σ) : CallS E B 60 [.agg ⟨wlC x v⟩,.agg ⟨wlC x w⟩] σ Q := by
 obtain ⟨uv,g1,b1⟩ := boxWl h1
 obtain ⟨uw,g2,b2⟩ := boxWl h2
 simp only [wlC] at b1 b2 ⊢
 refine call60 (by simp) ?_
 simp only [strip,bodyOf,Tryz.f60,getD_body,keepN,bareOp_mk,List.map_cons,List.map_nil,↓reduceIte,Bool.false_eq_true]
 simp only [↓sbD,sbU,tyB,Bool.or_self,↓reduceIte,Nat.reduceEqDiff,Nat.reduceLT,reduceCtorEq,isConst,b1,b2,eq_self,boolEq]
 refine specPSame g1 g2 (by omega) ?_
 simp only [↓sbD,sbU,↓reduceIte,Nat.reduceEqDiff,Nat.reduceLT]
 exact downS_here h
theorem specKSame {p : Pk} {v w : Value} (h1 : PkV p v) (h2 : PkV p w) (l1 : p.props.length ≤ 100000) (l2 : p.will.props.length ≤ 100000) (l3 : p.subs.length ≤ 100000) (l4 : p.filts.length ≤ 100000) (l5 : p.codes.length ≤ 100000) (h : Q (.bool true) σ) :
  CallS E B 17 [v,w] σ Q := by
 obtain ⟨vp,vw,vs,vf,vc,d1,d2,d3,d4,d5,rfl⟩ := h1
 obtain ⟨wp,ww,ws,wf,wc,e1,e2,e3,e4,e5,rfl⟩ := h2
 obtain ⟨up,uw,us,uf,uc,d1,d2,d3,d4,d5,_,b1⟩ := boxPk d1 d2 d3 d4 d5
 obtain ⟨xp,xw,xs,xf,xc,e1,e2,e3,e4,e5,_,b2⟩ := boxPk e1 e2 e3 e4 e5
 simp only [pkC] at b1 b2 ⊢
 refine call17 (by simp) ?_
 simp only [strip,bodyOf,Tryz.f17,getD_body,keepN,bareOp_mk,lapp_cons,lapp_nil,List.map_cons,List.map_nil,↓reduceIte,Bool.false_eq_true]
 simp only [↓sbD,sbU,tyB,decide_false,Bool.or_self,↓reduceIte,Nat.reduceEqDiff,Nat.reduceLT,reduceCtorEq,isConst,b1,b2,eq_self,boolEq,boolNe]
 refine specPSame d1 e1 (by omega) ?_
 simp only [↓sbD,sbU,tyB,↓reduceIte,Nat.reduceEqDiff,Nat.reduceLT,Nat.reduceAdd,Nat.reduceLeDiff,reduceCtorEq]
 refine specKSameW (x := p.will) d2 e2 (by omega) ?_
 simp only [↓sbD,sbU,tyB,↓reduceIte,Nat.reduceEqDiff,Nat.reduceLT,reduceCtorEq]
 refine specKSameS d3 e3 (by omega) ?_
 simp only [↓sbD,sbU,tyB,↓reduceIte,Nat.reduceEqDiff,Nat.reduceLT,reduceCtorEq]
 refine specKSameT d4 e4 (by omega) ?_
 simp only [↓sbD,sbU,tyB,↓reduceIte,Nat.reduceEqDiff,Nat.reduceLT,reduceCtorEq]
 refine specKSameI d5 e5 (by omega) ?_
 simp only [↓sbD,sbU,↓reduceIte,Nat.reduceEqDiff,Nat.reduceLT]
 exact downS_here h
end
section
variable {σ : AHeap} {Q : Value → AHeap → Prop}
theorem specKPlain {v : Value} {l : List Pr} (hl : DL propC 4 v l) (hs : l.length ≤ 1000) (hq : ∀ w σ',DL propC 4 w (l.map plainP) → Kept σ [] σ' [] → Q w σ') : CallS E B 64 [v] σ Q := by
 have hlen := DLp.len hl
 refine call64 (by simp) ?_
 simp only [strip,bodyOf,Tryz.f64,getD_body,keepN,bareOp_mk,List.map_cons,List.map_nil,↓reduceIte,Bool.false_eq_true]
 simp (disch := first | assumption | simp) only [↓sbD,sbU]
 refine S_loop (fun m f σ' => ∃ (i : Nat) (w : Value) (fp : List Nat),m + i = l.length ∧ f 4 = .int .i64 i ∧ f 3 = w ∧ DG propC 4 σ' w ((l.take i).map plainP) fp ∧ Kept σ [] σ' fp) l.length (Le.refl _) ⟨0,_,[],by omega,by simp (disch := first | assumption | simp) only [sbU,↓reduceIte]; rfl,rfl,by simp (disch := first | assumption | simp) only [sbU,↓reduceIte,Nat.reduceEqDiff]; exact DG.nil,Kept.refl _ _⟩ ?_
 rintro m f σ1 ⟨i,w,fp,hm,f4,f3,hg,hk⟩ hf
 have f0 := hf 0 (by decide) (notMem_wr (by kernel_rfl))
 simp (disch := first | assumption | simp) only [sbU,↓reduceIte,reduceCtorEq] at f0
 clear hf
 by_cases hi : (i : Int) < (l.length : Int)
 ·have hi' : i < l.length := by omega
  have hia := DLp.at hl hi'
  have hw := wrap_suc (n := i) (by omega)
  have htk : (l.take (i + 1)).map plainP = (l.take i).map plainP ++ [plainP l[i]] := by rw [List.take_succ_eq_append_getElem hi',List.map_append]; rfl
  generalize l[i] = x at hia htk
  have hac : propC x = [.int .i64 x.id,.int .i64 x.n,.string x.s,.string x.v] := rfl
  simp (disch := first | assumption | simp) only [↓sbD,sbU,tyB,Bool.or_self,↓reduceIte,Nat.reduceEqDiff,Nat.reduceLT,Nat.reduceAdd,Nat.reduceLeDiff,reduceCtorEq,pairs,isConst,splice,ZV.val,f0,f4,hlen,hi,hia,hac,AS_new,zePr]
  intro y hy
  generalize hσ2 : AHeap.set (AHeap.set σ1 y _) y _ = σ2
  have k2 : Kept σ1 [] σ2 [] := by rw [← hσ2]; exact ((Kept.refl _ []).setD hy).setD hy
  have gy2 : σ2.get y = .cells [.int .i64 x.id,.int .i64 0,.string ⟨#[]⟩,.string ⟨#[]⟩] true 0 := by rw [← hσ2]; exact AHeap.get_set_same _ _ _
  clear hσ2
  try simp (disch := first | assumption | simp) only [↓sbD,sbU,tyB,Nat.reduceMul,Nat.reduceSub,Int.reduceEq,Int.reduceLT,Int.reduceLE,Int.reduceNe,Nat.reduceBneDiff,Nat.reduceBEq,decide_false,gt_iff_lt,Bool.or_self,Bool.false_eq_true,Nat.mul_one,Nat.one_mul,Nat.zero_mul,↓reduceIte,Nat.reduceEqDiff,Nat.reduceLT,Nat.reduceAdd,Nat.reduceLeDiff,reduceCtorEq,goInt,pairs,isConst,TI.isAgg,splice,boxS,Edp,dpv,Nat.beq_eq,ZV.val,List.any_cons,List.any_nil,Bool.false_and,gy2]
  refine specRType ?_
  by_cases h9 : typI x.id = 9
  ·have hp : plainP x = ⟨x.id,0,x.s,x.v⟩ := by unfold plainP; rw [if_pos h9]
   simp (disch := first | assumption | simp) only [↓sbD,sbU,tyB,Nat.reduceBneDiff,decide_false,gt_iff_lt,Bool.or_self,Bool.false_eq_true,Nat.one_mul,Nat.zero_mul,↓reduceIte,Nat.reduceEqDiff,Nat.reduceLT,Nat.reduceAdd,Nat.reduceLeDiff,reduceCtorEq,pairs,isConst,splice,Edp,dpv,ZV.val,h9,f0,f3,f4,hia,hac,gy2]
   refine app_pr (xs := [plainP x]) (hg.kept ((k2.setD hy).setD hy) (fun _ _ h => by cases h)) (by rw [hp]; exact .inr ⟨1,rfl⟩) (by simp only [List.length_map,List.length_take,List.length_cons,List.length_nil]; omega) fun σ4 v4 fp4 k4 g4 => ?_
   simp (disch := first | assumption | simp) only [↓sbD,sbU,↓reduceIte,Nat.reduceEqDiff,Nat.reduceLT,isConst,f4,hw]
   exact ⟨_,m - 1,σ4,rfl,by omega,Le.refl _,i + 1,v4,fp4,by omega,by simp (disch := first | assumption | simp) only [sbU,↓reduceIte],rfl,by rw [htk]; exact g4,hk.trans ((((k2.setD hy).setD hy).wid (gp := fp) (gp' := fp) (fun _ h => by cases h) (fun _ h => .inr h)).trans k4)⟩
  by_cases h6 : typI x.id = 6
  ·have hp : plainP x = ⟨x.id,0,x.s,emp⟩ := by unfold plainP; rw [if_neg h9,if_pos (.inl h6)]
   simp (disch := first | assumption | simp) only [↓sbD,sbU,tyB,Int.reduceEq,Nat.reduceBneDiff,decide_false,gt_iff_lt,Bool.or_self,Bool.false_eq_true,Nat.one_mul,Nat.zero_mul,↓reduceIte,Nat.reduceEqDiff,Nat.reduceLT,Nat.reduceAdd,Nat.reduceLeDiff,reduceCtorEq,pairs,isConst,splice,Edp,dpv,ZV.val,h6,f0,f3,f4,hia,hac,gy2]
   refine app_pr (xs := [plainP x]) (hg.kept (k2.setD hy) (fun _ _ h => by cases h)) (by rw [hp]; exact .inr ⟨1,rfl⟩) (by simp only [List.length_map,List.length_take,List.length_cons,List.length_nil]; omega) fun σ4 v4 fp4 k4 g4 => ?_
   simp (disch := first | assumption | simp) only [↓sbD,sbU,↓reduceIte,Nat.reduceEqDiff,Nat.reduceLT,isConst,f4,hw]
   exact ⟨_,m - 1,σ4,rfl,by omega,Le.refl _,i + 1,v4,fp4,by omega,by simp (disch := first | assumption | simp) only [sbU,↓reduceIte],rfl,by rw [htk]; exact g4,hk.trans (((k2.setD hy).wid (gp := fp) (gp' := fp) (fun _ h => by cases h) (fun _ h => .inr h)).trans k4)⟩
  by_cases h7 : typI x.id = 7
  ·have hp : plainP x = ⟨x.id,0,x.s,emp⟩ := by unfold plainP; rw [if_neg h9,if_pos (.inr h7)]
   simp (disch := first | assumption | simp) only [↓sbD,sbU,tyB,Int.reduceEq,Nat.reduceBneDiff,decide_false,gt_iff_lt,Bool.or_self,Bool.false_eq_true,Nat.one_mul,Nat.zero_mul,↓reduceIte,Nat.reduceEqDiff,Nat.reduceLT,Nat.reduceAdd,Nat.reduceLeDiff,reduceCtorEq,pairs,isConst,splice,Edp,dpv,ZV.val,h7,f0,f3,f4,hia,hac,gy2]
   refine app_pr (xs := [plainP x]) (hg.kept (k2.setD hy) (fun _ _ h => by cases h)) (by rw [hp]; exact .inr ⟨1,rfl⟩) (by simp only [List.length_map,List.length_take,List.length_cons,List.length_nil]; omega) fun σ4 v4 fp4 k4 g4 => ?_
   simp (disch := first | assumption | simp) only [↓sbD,sbU,↓reduceIte,Nat.reduceEqDiff,Nat.reduceLT,isConst,f4,hw]
   exact ⟨_,m - 1,σ4,rfl,by omega,Le.refl _,i + 1,v4,fp4,by omega,by simp (disch := first | assumption | simp) only [sbU,↓reduceIte],rfl,by rw [htk]; exact g4,hk.trans (((k2.setD hy).wid (gp := fp) (gp' := fp) (fun _ h => by cases h) (fun _ h => .inr h)).trans k4)⟩
  have hp : plainP x = ⟨x.id,x.n,emp,emp⟩ := by unfold plainP; rw [if_neg h9,if_neg (fun h => h.elim h6 h7)]
  simp (disch := first | assumption | simp) only [↓sbD,sbU,tyB,Nat.reduceBneDiff,decide_false,gt_iff_lt,Bool.or_self,Bool.false_eq_true,Nat.one_mul,Nat.zero_mul,↓reduceIte,Nat.reduceEqDiff,Nat.reduceLT,Nat.reduceAdd,Nat.reduceLeDiff,reduceCtorEq,pairs,isConst,splice,Edp,dpv,ZV.val,h9,h6,h7,f0,f3,f4,hia,hac,gy2]
  refine app_pr (xs := [plainP x]) (hg.kept (k2.setD hy) (fun _ _ h => by cases h)) (by rw [hp]; exact .inr ⟨1,rfl⟩) (by simp only [List.length_map,List.length_take,List.length_cons,List.length_nil]; omega) fun σ4 v4 fp4 k4 g4 => ?_
  simp (disch := first | assumption | simp) only [↓sbD,sbU,↓reduceIte,Nat.reduceEqDiff,Nat.reduceLT,isConst,f4,hw]
  exact ⟨_,m - 1,σ4,rfl,by omega,Le.refl _,i + 1,v4,fp4,by omega,by simp (disch := first | assumption | simp) only [sbU,↓reduceIte],rfl,by rw [htk]; exact g4,hk.trans (((k2.setD hy).wid (gp := fp) (gp' := fp) (fun _ h => by cases h) (fun _ h => .inr h)).trans k4)⟩
 ·have hii : i = l.length := by omega
  subst hii
  rw [List.take_length] at hg
  simp (disch := first | assumption | simp) only [↓sbD,sbU,decide_false,Bool.or_self,↓reduceIte,Nat.reduceEqDiff,Nat.reduceLT,reduceCtorEq,isConst,f0,f3,f4,hlen,hi]
  exact downS_here (hq _ _ hg.dl hk.none)
end
end Go.Proofs.YtjkhhdknplelcaaGreatDoor.AbsB
namespace Go.Proofs.YtjkhhdknplelcaaGreatDoor.AbsB
open Go AbsYtjkhhdknplelcaaGreatDoor Abs
set_option maxRecDepth 100000
set_option maxHeartbeats 4000000
set_option linter.unusedSimpArgs false
set_option linter.unusedVariables false
theorem catW_cons {a : Act} {l : List Act} {D : ByteArray} (h : catW (a :: l) = some D) : ∃ m c,actW a = .inl m ∧ catW l = some c ∧ D = m ++ c := by
 simp only [catW] at h
 split at h
 ·rename_i m c h1 h2
  simp only [Option.some.injEq] at h
  exact ⟨m,c,h1,h2,h.symm⟩
 ·cases h
theorem numW_inl {n : Int} {k : Nat} {m : ByteArray} (h : numW n k = .inl m) : 0 ≤ n ∧ n < (2 ^ (8 * k) : Nat) ∧ m = numB n.toNat k := by
 unfold numW at h
 split at h
 ·cases h
 ·rename_i h1
  injection h with h
  exact ⟨by omega,by omega,h.symm⟩
theorem num_at (A B : ByteArray) {n k : Nat} (hk : k = 1 ∨ k = 2 ∨ k = 4) (hn : n < 2 ^ (8 * k)) {q : Nat} (hq : A.size = q) : numR (A ++ (numB n k ++ B)) q k = .ok (n,q + k) := by
 rw [← hq,← app_assoc]; exact num_mid A B hk hn
set_option maxHeartbeats 8000000
attribute [local irreducible] afterS afterOpS opSK OpsS TrS CodeS condS condW thenS thenQ guardS guardTS outS drawS trSK consS
abbrev RSt := Except (Nat × Nat) Nat
def stp {α : Type} (z : α) (rd : Nat → Rd α) : RSt → α × RSt
 | .error e => (z,.error e)
 | .ok p => match rd p with
  | .ok (a,q) => (a,.ok q)
  | .error e => (z,.error e)
def u8S (s : ByteArray) (st : RSt) : Nat × RSt := stp 0 (fun p => numR s p 1) st
def u16S (s : ByteArray) (st : RSt) : Nat × RSt := stp 0 (fun p => numR s p 2) st
def textS (s : ByteArray) (st : RSt) : ByteArray × RSt := stp emp (fun p => textR s p) st
def binS (s : ByteArray) (st : RSt) : ByteArray × RSt := stp emp (fun p => binR s p) st
def endS (s : ByteArray) : RSt → Option (Nat × Nat × Nat)
 | .error (k,q) => some (k,129,q)
 | .ok p => if p = s.size then none else some (2,129,p)
def ReadPS (pl : Int) (s : ByteArray) (st : RSt) (r : Except E3 (List Pr × Nat)) : Prop := match st with
 | .error (k,q) => r = .error (k,129,q)
 | .ok p => ReadP pl s p r
def IsRS (σ : AHeap) (r : Nat) (s : ByteArray) : RSt → Prop
 | .ok p => p ≤ s.size ∧ IsR σ r s p .nilIface
 | .error (k,q) => k ≠ 0 ∧ ∃ p,RBad σ r s p k q
theorem ReadPS.det {pl : Int} {s : ByteArray} {st : RSt} {r r' : Except E3 (List Pr × Nat)} (h : ReadPS pl s st r) (h' : ReadPS pl s st r') : r = r' := by
 cases st with
 | error e => obtain ⟨k,q⟩ := e; exact h.trans h'.symm
 | ok p => exact ReadP.det (show ReadP pl s p r from h) h'
section
variable {σ : AHeap} {Q : Value → AHeap → Prop} {r : Nat} {s : ByteArray} {st : RSt}
theorem IsRS.kept {σ' : AHeap} {gp gp' : List Nat} (h : IsRS σ r s st) (k : Kept σ gp σ' gp') (hd : r ∉ gp) : IsRS σ' r s st := by
 cases st with
 | ok p => exact ⟨h.1,(k.at h.2 (by simp) hd).1⟩
 | error e =>
  obtain ⟨a,q⟩ := e
  obtain ⟨h1,p,d,z,h2,h3,h4⟩ := h
  exact ⟨h1,p,d,z,h2,h3,(k.at h4 (by simp) hd).1⟩
theorem IsRS.set {b : Nat} {o : AObj} (h : IsRS σ r s st) (hd : b ≠ r) : IsRS (σ.set b o) r s st := by
 cases st with
 | ok p => exact ⟨h.1,(AHeap.get_set_ne _ _ hd).trans h.2⟩
 | error e =>
  obtain ⟨a,q⟩ := e
  obtain ⟨h1,p,d,z,h2,h3,h4⟩ := h
  exact ⟨h1,p,d,z,h2,h3,(AHeap.get_set_ne _ _ hd).trans h4⟩
theorem IsRS.alive (h : IsRS σ r s st) : σ.get r ≠ .dead := by
 cases st with
 | ok p => intro hd; have := h.2; unfold IsR at this; rw [hd] at this; cases this
 | error e => obtain ⟨a,q⟩ := e; obtain ⟨h1,p,d,z,h2,h3,h4⟩ := h; intro hd; unfold IsR at h4; rw [hd] at h4; cases h4
theorem binR_k {p k q : Nat} (h : binR s p = .error (k,q)) : k ≠ 0 := by
 unfold binR at h
 cases hb : numR s p 2 with
 | ok a => obtain ⟨n,q'⟩ := a; rw [hb] at h; exact rawR_k h
 | error e => obtain ⟨j,q'⟩ := e; rw [hb] at h; simp only [Except.error.injEq,Prod.mk.injEq] at h; have := numR_k hb; omega
theorem specSU8 (hr : IsRS σ r s st) (hs : s.size ≤ 100000000) (h : ∀ σ',Kept σ [r] σ' [r] → IsRS σ' r s (u8S s st).2 → Q (.int .i64 (((u8S s st).1 : Nat) : Int)) σ') : CallS E B 75 [.pointer (some ⟨r,0,none⟩)] σ Q := by
 unfold u8S at h
 cases st with
 | error e =>
  obtain ⟨k,q⟩ := e
  obtain ⟨hk,p,d,z,hd,he,h0⟩ := hr
  simp only [stp] at h
  exact specRU8E h0 (h σ (Kept.refl _ _) ⟨hk,p,d,z,hd,he,h0⟩)
 | ok p =>
  simp only [stp] at h
  refine specRU8 hr.2 hr.1 (by omega) (fun v q hn σ' k1 i1 => ?_) fun k q hn σ' k1 i1 => ?_
  ·rw [hn] at h; exact h σ' k1 ⟨(numR_ok hn).2,i1⟩
  ·rw [hn] at h; exact h σ' k1 ⟨numR_k hn,p,i1⟩
theorem specSU16 (hr : IsRS σ r s st) (hs : s.size ≤ 100000000) (h : ∀ σ',Kept σ [r] σ' [r] → IsRS σ' r s (u16S s st).2 → Q (.int .i64 (((u16S s st).1 : Nat) : Int)) σ') : CallS E B 55 [.pointer (some ⟨r,0,none⟩)] σ Q := by
 unfold u16S at h
 cases st with
 | error e =>
  obtain ⟨k,q⟩ := e
  obtain ⟨hk,p,d,z,hd,he,h0⟩ := hr
  simp only [stp] at h
  exact specRU16E h0 (h σ (Kept.refl _ _) ⟨hk,p,d,z,hd,he,h0⟩)
 | ok p =>
  simp only [stp] at h
  refine specRU16 hr.2 hr.1 (by omega) (fun v q hn σ' k1 i1 => ?_) fun k q hn σ' k1 i1 => ?_
  ·rw [hn] at h; exact h σ' k1 ⟨(numR_ok hn).2,i1⟩
  ·rw [hn] at h; exact h σ' k1 ⟨numR_k hn,p,i1⟩
theorem specSBin (hr : IsRS σ r s st) (hs : s.size ≤ 100000000) (h : ∀ σ',Kept σ [r] σ' [r] → IsRS σ' r s (binS s st).2 → Q (.string (binS s st).1) σ') : CallS E B 108 [.pointer (some ⟨r,0,none⟩)] σ Q := by
 unfold binS at h
 cases st with
 | error e =>
  obtain ⟨k,q⟩ := e
  obtain ⟨hk,p,d,z,hd,he,h0⟩ := hr
  simp only [stp] at h
  exact specRBinE h0 fun σ' k1 i1 => h σ' k1 ⟨hk,p,d,z,hd,he,i1⟩
 | ok p =>
  simp only [stp] at h
  refine specRBin hr.2 hr.1 (by omega) (fun v q hn σ' k1 i1 => ?_) fun k q hn σ' k1 i1 => ?_
  ·rw [hn] at h; exact h σ' k1 ⟨(binR_ok hn).1,i1⟩
  ·rw [hn] at h; exact h σ' k1 ⟨binR_k hn,p,i1⟩
theorem specSText (hr : IsRS σ r s st) (hs : s.size ≤ 100000000) (h : ∀ σ',Kept σ [r] σ' [r] → IsRS σ' r s (textS s st).2 → Q (.string (textS s st).1) σ') : CallS E B 53 [.pointer (some ⟨r,0,none⟩)] σ Q := by
 unfold textS at h
 cases st with
 | error e =>
  obtain ⟨k,q⟩ := e
  obtain ⟨hk,p,d,z,hd,he,h0⟩ := hr
  simp only [stp] at h
  exact specDTextE h0 fun σ' k1 i1 => h σ' k1 ⟨hk,p,d,z,hd,he,i1⟩
 | ok p =>
  simp only [stp] at h
  refine specDText hr.2 hr.1 (by omega) (fun v q hn σ' k1 i1 => ?_) fun k q hn σ' k1 i1 => ?_
  ·rw [hn] at h; exact h σ' k1 ⟨(textR_ok hn).2,i1⟩
  ·rw [hn] at h; exact h σ' k1 ⟨textR_k hn,p,i1⟩
theorem specSErr (hr : IsRS σ r s st) (hok : ∀ p,st = .ok p → Q .nilIface σ) (hbad : ∀ k q d z,st = .error (k,q) → d ≤ 2 → ErN d (fv 129 (q : Int) z) k → Q (fv 129 (q : Int) z) σ) : CallS E B 56 [.pointer (some ⟨r,0,none⟩)] σ Q := by
 cases st with
 | ok p => exact specRErr hr.2 (hok p rfl)
 | error e =>
  obtain ⟨k,q⟩ := e
  obtain ⟨hk,p,d,z,hd,he,h0⟩ := hr
  exact specRErr h0 (hbad k q d z rfl hd he)
theorem specSDone (hr : IsRS σ r s st) (hs : s.size ≤ 100000000) (hok : endS s st = none → Q .nilIface σ) (hbad : ∀ k q d z,endS s st = some (k,129,q) → d ≤ 2 → ErN d (fv 129 (q : Int) z) k → Q (fv 129 (q : Int) z) σ) : CallS E B 77 [.pointer (some ⟨r,0,none⟩)] σ Q := by
 cases st with
 | ok p =>
  simp only [endS] at hok hbad
  exact specRDone hr.2 hr.1 (by omega) (fun he => hok (if_pos he)) fun hm => hbad 2 p 1 _ (if_neg (by omega)) (by omega) (ErN.new _ _ ⟨by omega,by omega⟩)
 | error e =>
  obtain ⟨k,q⟩ := e
  obtain ⟨hk,p,d,z,hd,he,h0⟩ := hr
  exact specRDoneE h0 (hbad k q d z rfl hd he)
theorem specPReadE {pl : Int} {p : Nat} {u : Nat} {x : Value} (hr : IsR σ r s p (.iface u x)) (h : Q (.tuple #[.slice none 0 0,.iface u x]) σ) : CallS E B 57 [.pointer (some ⟨r,0,none⟩),.int .i64 pl] σ Q := by
 refine call57 (by simp) ?_
 simp only [strip,bodyOf,Tryz.f57,getD_body,keepN,bareOp_mk,List.map_cons,List.map_nil,↓reduceIte,Bool.false_eq_true]
 simp only [↓sbD,sbU,↓reduceIte,Nat.reduceLT,reduceCtorEq]
 refine specRVarE hr ?_
 simp only [↓sbD,sbU,↓reduceIte,Nat.reduceEqDiff,Nat.reduceLT]
 refine specRRawE hr ?_
 simp only [↓sbD,sbU,↓reduceIte,Nat.reduceLT,reduceCtorEq]
 refine specRErr hr ?_
 simp only [↓sbD,sbU,tyB,↓reduceIte,Nat.reduceEqDiff,Nat.reduceLT,isConst]
 exact downS_here h
theorem specSRead {pl : Int} (hr : IsRS σ r s st) (hs : s.size ≤ 100000000)
  (hok : ∀ l q,ReadPS pl s st (.ok (l,q)) → ∀ v σ',DL propC 4 v l → Kept σ [r] σ' [r] → IsRS σ' r s (.ok q) → Q (.tuple #[v,.nilIface]) σ')
  (hbad : ∀ k rr a : Nat,ReadPS pl s st (.error (k,rr,a)) → ∀ σ' d z,Kept σ [r] σ' [r] → d ≤ 3 → ErN d (fv rr a z) k → Q (.tuple #[.slice none 0 0,fv rr a z]) σ') :
  CallS E B 57 [.pointer (some ⟨r,0,none⟩),.int .i64 pl] σ Q := by
 cases st with
 | ok p => exact specPRead hr.2 hr.1 hs (fun l q h1 v σ' h2 h3 h4 h5 => hok l q h1 v σ' h2 h3 ⟨h5,h4⟩) hbad
 | error e =>
  obtain ⟨k,q⟩ := e
  obtain ⟨hk,p,d,z,hd,he,h0⟩ := hr
  exact specPReadE h0 (hbad k 129 q rfl σ d z (Kept.refl _ _) (by omega) he)
end
end Go.Proofs.YtjkhhdknplelcaaGreatDoor.AbsB
