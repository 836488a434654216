/-
  Parts of a law's proof.
-/
import Derived.Test.YtonmjhdcijibgaaGreatDoorABxqbJ
import Derived.Test.YtonmjhdcijibgaaGreatDoorAPraJ
namespace Go.Proofs.YtonmjhdcijibgaaGreatDoor.AbsB
open Go AbsYtonmjhdcijibgaaGreatDoor Abs
set_option maxRecDepth 100000
set_option maxHeartbeats 4000000
set_option linter.unusedSimpArgs false
set_option linter.unusedVariables false
attribute [local irreducible] afterS afterOpS opSK OpsS TrS CodeS condS condW thenS thenQ guardS guardTS outS drawS trSK consS
theorem ReadP.det {pl : Int} {s : ByteArray} {p : Nat} {r r' : Except (Nat × Nat × Nat) (List Pr × Nat)} (h : ReadP pl s p r) (h' : ReadP pl s p r') : r = r' := by
 unfold ReadP at h h'
 cases hv : varR s p with
 | error e => obtain ⟨k,q⟩ := e; rw [hv] at h h'; exact h.trans h'.symm
 | ok a =>
  obtain ⟨n,q⟩ := a
  rw [hv] at h h'
  simp only at h h'
  cases hw : rawR s q n with
  | error e => obtain ⟨k,q'⟩ := e; rw [hw] at h h'; exact h.trans h'.symm
  | ok b =>
   obtain ⟨all,q'⟩ := b
   rw [hw] at h h'
   simp only at h h'
   obtain ⟨x,h1,h2⟩ := h
   obtain ⟨y,h3,h4⟩ := h'
   obtain rfl := h1.det h3
   cases x with
   | error e => obtain ⟨k,rr,a⟩ := e; exact h2.trans h4.symm
   | ok l => exact h2.trans h4.symm
theorem TailA.det {kind : Int} {a q : Nat} {s : ByteArray} {r r' : Except E3 (Int × List Pr)} (h : TailA kind a s q r) (h' : TailA kind a s q r') : r = r' := by
 unfold TailA at h h'
 split at h
 ·rename_i h1
  rw [if_pos h1] at h'
  exact h.trans h'.symm
 ·rename_i h1
  rw [if_neg h1] at h'
  split at h
  ·rename_i h2
   rw [if_pos h2] at h'
   obtain ⟨x,h3,rfl⟩ := h
   obtain ⟨y,h4,rfl⟩ := h'
   rw [h3.det h4]
  ·rename_i h2
   rw [if_neg h2] at h'
   exact h.trans h'.symm
theorem DecA.det {f : Int} {s : ByteArray} {r r' : Except E3 Pk} (h : DecA f s r) (h' : DecA f s r') : r = r' := by
 unfold DecA at h h'
 split at h
 ·rename_i h1
  rw [if_pos h1] at h'
  exact h.trans h'.symm
 ·rename_i h1
  rw [if_neg h1] at h'
  cases hn : numR s 0 2 with
  | error e => obtain ⟨k,q⟩ := e; rw [hn] at h h'; exact h.trans h'.symm
  | ok a =>
   obtain ⟨id,q⟩ := a
   rw [hn] at h h'
   simp only at h h'
   split at h
   ·rename_i h2
    rw [if_pos h2] at h'
    exact h.trans h'.symm
   ·rename_i h2
    rw [if_neg h2] at h'
    obtain ⟨x,h3,rfl⟩ := h
    obtain ⟨y,h4,rfl⟩ := h'
    rw [h3.det h4]
theorem MadeR.det {f : Int} {D : ByteArray → Except E3 Pk → Prop} (hD : ∀ b r r',D b r → D b r' → r = r') {w : ByteArray ⊕ (Nat × Nat)} {r r' : Except E3 (Int × ByteArray)} (h : MadeR f D w r) (h' : MadeR f D w r') : r = r' := by
 unfold MadeR at h h'
 cases w with
 | inr e => obtain ⟨k,q⟩ := e; exact h.trans h'.symm
 | inl b =>
  obtain ⟨x,h1,h2⟩ := h
  obtain ⟨y,h3,h4⟩ := h'
  obtain rfl := hD _ _ _ h1 h3
  cases x with
  | error e => exact h2.trans h4.symm
  | ok l => exact h2.trans h4.symm
theorem EncA.det {p : Pk} {r r' : Except E3 (Int × ByteArray)} (h : EncA p r) (h' : EncA p r') : r = r' := by
 unfold EncA at h h'
 split at h
 ·rename_i h1
  rw [if_pos h1] at h'
  exact h.trans h'.symm
 ·rename_i h1
  rw [if_neg h1] at h'
  cases hb : propsB p.kind p.props with
  | error e => rw [hb] at h h'; exact h.trans h'.symm
  | ok s =>
   rw [hb] at h h'
   simp only at h h'
   exact MadeR.det (D := DecA (firstA p.kind)) (fun _ _ _ h1 h2 => h1.det h2) h h'
theorem valueR_k {id : Int} {s : ByteArray} {p k q : Nat} (h : valueR id s p = .error (k,q)) : k ≠ 0 := by
 unfold valueR at h
 split at h
 ·cases h1 : textR s p with
  | error e =>
   obtain ⟨k',q'⟩ := e
   rw [h1] at h
   simp only [Except.error.injEq,Prod.mk.injEq] at h
   have := textR_k h1; omega
  | ok a =>
   obtain ⟨a,q1⟩ := a
   rw [h1] at h
   simp only at h
   cases h2 : textR s q1 with
   | error e =>
    obtain ⟨k',q'⟩ := e
    rw [h2] at h
    simp only [Except.error.injEq,Prod.mk.injEq] at h
    have := textR_k h2; omega
   | ok b => rw [h2] at h; cases h
 ·cases h1 : rdA (typI id) s p with
  | error e =>
   obtain ⟨k',q'⟩ := e
   rw [h1] at h
   simp only [Except.error.injEq,Prod.mk.injEq] at h
   have := rdA_k h1; omega
  | ok a => rw [h1] at h; cases h
theorem oneR_k {pl : Int} {s : ByteArray} {p k r a : Nat} {ahead : List Pr} (h : oneR pl s p ahead = .error (k,r,a)) : k ≠ 0 := by
 unfold oneR at h
 cases hv : varR s p with
 | error e =>
  obtain ⟨k',q'⟩ := e
  rw [hv] at h
  simp only [Except.error.injEq,Prod.mk.injEq] at h
  have := varR_k hv; omega
 | ok b =>
  obtain ⟨id,q1⟩ := b
  rw [hv] at h
  simp only at h
  cases hg : groundP pl ahead (id : Int) with
  | some e =>
   obtain ⟨k',r'⟩ := e
   rw [hg] at h
   simp only [Except.error.injEq,Prod.mk.injEq] at h
   have := groundP_k hg; omega
  | none =>
   rw [hg] at h
   simp only at h
   cases hw : valueR id s q1 with
   | error e =>
    obtain ⟨k',q'⟩ := e
    rw [hw] at h
    simp only [Except.error.injEq,Prod.mk.injEq] at h
    have := valueR_k hw; omega
   | ok b =>
    obtain ⟨y,q2⟩ := b
    rw [hw] at h
    simp only at h
    split at h
    ·cases h
    ·simp only [Except.error.injEq,Prod.mk.injEq] at h; omega
theorem AllP.k {pl : Int} {s : ByteArray} {p : Nat} {l : List Pr} {r : Except (Nat × Nat × Nat) (List Pr)} (h : AllP pl s p l r) : ∀ k rr a,r = .error (k,rr,a) → k ≠ 0 := by
 induction h with
 | nil h => intro k rr a hm; cases hm
 | bad h ho => intro k rr a hm; injection hm with hm; subst hm; exact oneR_k ho
 | step h ho hr ih => exact ih
end Go.Proofs.YtonmjhdcijibgaaGreatDoor.AbsB
namespace Go.Proofs.YtonmjhdcijibgaaGreatDoor.AbsB
open Go AbsYtonmjhdcijibgaaGreatDoor Abs
set_option maxRecDepth 100000
set_option maxHeartbeats 4000000
set_option linter.unusedSimpArgs false
set_option linter.unusedVariables false
theorem read_encA {pl : Int} {l : List Pr} {A c t : ByteArray} (he : encP pl l = .ok c) (hpl : ∀ x ∈ l,plain x) (hz : c.size ≤ 700000) : ReadP pl (A ++ c ++ t) A.size (.ok (l,A.size + c.size)) := by
 unfold encP at he
 cases hc : chk pl [] l with
 | some e => rw [hc] at he; cases he
 | none =>
  rw [hc] at he
  simp only at he
  cases hr : runW emp (l.flatMap actsP) with
  | inr e => obtain ⟨k,q⟩ := e; rw [hr] at he; cases he
  | inl C =>
   rw [hr] at he
   simp only [Except.ok.injEq] at he
   subst he
   obtain ⟨D,hD,rfl⟩ := runW_cat hr
   rw [emp_app'] at *
   rw [size_app] at hz
   obtain ⟨A',hA',hall⟩ := all_mid hc hpl hD l.length 0 (by omega)
   have : A' = emp := by
    have : some emp = some A' := hA'
    injection this with this; exact this.symm
   subst this
   unfold ReadP
   have e1 : A ++ (str (enc D.size) ++ D) ++ t = A ++ str (enc D.size) ++ (D ++ t) := by simp only [app_assoc]
   have hv := var_mid A (D ++ t) (N := D.size) (by omega)
   rw [e1,hv]
   simp only
   have e2 : A ++ str (enc D.size) ++ (D ++ t) = (A ++ str (enc D.size)) ++ D ++ t := by simp only [app_assoc]
   have es : A.size + vsize D.size = (A ++ str (enc D.size)).size := by rw [size_app,str_size,enc_len]
   rw [e2,es,raw_mid]
   simp only
   exact ⟨.ok l,hall,by simp only [size_app,Except.ok.injEq,Prod.mk.injEq,true_and]; omega⟩
def plainP (x : Pr) : Pr := if typI x.id = 9 then ⟨x.id,0,x.s,x.v⟩ else if typI x.id = 6 ∨ typI x.id = 7 then ⟨x.id,0,x.s,emp⟩ else ⟨x.id,x.n,emp,emp⟩
theorem plainP_id (x : Pr) : (plainP x).id = x.id := by
 unfold plainP
 repeat' split
 all_goals rfl
theorem plain_plainP (x : Pr) : plain (plainP x) := by
 unfold plain
 rw [plainP_id]
 have := typ_cases x.id
 unfold plainP
 by_cases h9 : typI x.id = 9
 ·rw [if_pos h9]; exact ⟨fun h => by omega,fun _ => rfl,fun h => by omega⟩
 ·rw [if_neg h9]
  by_cases h6 : typI x.id = 6 ∨ typI x.id = 7
  ·rw [if_pos h6]; exact ⟨fun h => by omega,fun _ => rfl,fun _ => rfl⟩
  ·rw [if_neg h6]; exact ⟨fun _ => ⟨rfl,rfl⟩,fun h => by omega,fun _ => rfl⟩
theorem plainP_plain {x : Pr} (h : plain x) : plainP x = x := by
 obtain ⟨p1,p2,p3⟩ := h
 have := typ_cases x.id
 obtain ⟨id,n,s,v⟩ := x
 simp only at *
 unfold plainP
 simp only
 by_cases h9 : typI id = 9
 ·rw [if_pos h9,p2 (by omega)]
 ·rw [if_neg h9]
  by_cases h6 : typI id = 6 ∨ typI id = 7
  ·rw [if_pos h6,p2 (by omega),p3 h6]
  ·rw [if_neg h6,(p1 (by omega)).1,(p1 (by omega)).2]
theorem map_plain : ∀ {l : List Pr},(∀ x ∈ l,plain x) → l.map plainP = l
 | [],_ => rfl
 | x :: l,h => by rw [List.map_cons,plainP_plain (h x (by simp)),map_plain fun y hy => h y (by simp [hy])]
theorem numOk_plainP (x : Pr) : numOk (plainP x) = numOk x := by
 by_cases h6 : typI x.id < 6
 ·have hn : (plainP x).n = x.n := by
   unfold plainP
   rw [if_neg (by omega),if_neg (by omega)]
  unfold numOk
  rw [plainP_id,hn]
 ·unfold numOk
  rw [plainP_id]
  have h1 : ¬ (x.id = 1 ∨ x.id = 23 ∨ x.id = 25 ∨ x.id = 36 ∨ x.id = 37 ∨ x.id = 40 ∨ x.id = 41 ∨ x.id = 42) := by
   intro h
   apply h6
   rcases h with h | h | h | h | h | h | h | h <;> rw [h] <;> decide
  have h2 : ¬ (x.id = 11 ∨ x.id = 33 ∨ x.id = 35 ∨ x.id = 39) := by
   intro h
   apply h6
   rcases h with h | h | h | h <;> rw [h] <;> decide
  rw [if_neg h1,if_neg h2,if_neg h1,if_neg h2]
theorem hasId_plain (l : List Pr) (id : Int) : hasId (l.map plainP) id = hasId l id := by
 unfold hasId
 rw [List.any_map]
 congr 1
 funext x
 simp only [Function.comp,plainP_id]
theorem badP_plain (pl : Int) (a : List Pr) (x : Pr) : badP pl (a.map plainP) (plainP x) = badP pl a x := by
 unfold badP groundP
 rw [plainP_id,hasId_plain,List.length_map,numOk_plainP]
theorem chk_plain (pl : Int) : ∀ (l a : List Pr),chk pl (a.map plainP) (l.map plainP) = chk pl a l
 | [],a => rfl
 | x :: l,a => by
  simp only [List.map_cons,chk,badP_plain,List.length_map]
  have := chk_plain pl l (a ++ [x])
  rw [List.map_append] at this
  simp only [List.map_cons,List.map_nil] at this
  rw [this]
theorem runW_plain1 (x : Pr) (b : ByteArray) (r : List Act) : runW b (actsP (plainP x) ++ r) = runW b (actsP x ++ r) := by
 unfold actsP
 rw [plainP_id]
 have hc := typ_cases x.id
 by_cases h9 : typI x.id = 9
 ·rw [if_pos h9,if_pos h9]
  unfold plainP
  rw [if_pos h9]
 ·rw [if_neg h9,if_neg h9]
  by_cases h0 : typI x.id = 0
  ·rw [if_pos h0,if_pos h0]
  ·rw [if_neg h0,if_neg h0]
   have key : actW ⟨typI x.id,(plainP x).n,(plainP x).s⟩ = actW ⟨typI x.id,x.n,x.s⟩ := by
    unfold plainP
    rw [if_neg h9]
    by_cases h6 : typI x.id = 6 ∨ typI x.id = 7
    ·rw [if_pos h6]
     rcases h6 with h | h <;> rw [h] <;> rfl
    ·rw [if_neg h6]
     have h7 : typI x.id = 1 ∨ typI x.id = 2 ∨ typI x.id = 4 ∨ typI x.id = 5 := by omega
     rcases h7 with h | h | h | h <;> rw [h] <;> rfl
   simp only [List.cons_append,List.nil_append,runW]
   cases actW ⟨5,x.id,emp⟩ with
   | inr e => rfl
   | inl m => simp only [key]
theorem runW_plain : ∀ (l : List Pr) (b : ByteArray),runW b ((l.map plainP).flatMap actsP) = runW b (l.flatMap actsP)
 | [],b => rfl
 | x :: l,b => by
  simp only [List.map_cons,List.flatMap_cons]
  rw [runW_plain1,runW_app,runW_app]
  cases runW b (actsP x) with
  | inr e => rfl
  | inl c => exact runW_plain l c
theorem encP_plain (pl : Int) (l : List Pr) : encP pl (l.map plainP) = encP pl l := by
 unfold encP
 rw [runW_plain]
 have := chk_plain pl l []
 rw [List.map_nil] at this
 rw [this]
theorem read_encP {pl : Int} {l : List Pr} {A c t : ByteArray} (he : encP pl l = .ok c) (hz : c.size ≤ 700000) : ReadP pl (A ++ c ++ t) A.size (.ok (l.map plainP,A.size + c.size)) := by
 refine read_encA (by rw [encP_plain]; exact he) (fun x hx => ?_) hz
 obtain ⟨y,_,rfl⟩ := List.mem_map.1 hx
 exact plain_plainP y
theorem numR_lt {s : ByteArray} {p k n q : Nat} (h : numR s p k = .ok (n,q)) : n < 256 ^ k := by
 unfold numR at h
 cases hb : rawR s p k with
 | error e => rw [hb] at h; cases h
 | ok a =>
  obtain ⟨b,q'⟩ := a
  rw [hb] at h
  simp only [Except.ok.injEq,Prod.mk.injEq] at h
  have h1 := (rawR_ok hb).2.2.2.2
  rw [Int.toNat_natCast] at h1
  rw [← h.1]
  have := beF_lt b b.size
  rw [h1] at this ⊢
  exact this
theorem numW_ok {n k : Nat} (h : n < 2 ^ (8 * k)) : numW (n : Int) k = .inl (numB n k) := by
 unfold numW
 rw [if_neg (by omega),Int.toNat_natCast]
theorem textR_w {s b : ByteArray} {p q : Nat} (h : textR s p = .ok (b,q)) : textW b = .inl (numB b.size 2 ++ b) ∧ b.size ≤ s.size := by
 unfold textR at h
 cases hb : binR s p with
 | error e => rw [hb] at h; cases h
 | ok a =>
  obtain ⟨v,q'⟩ := a
  rw [hb] at h
  simp only at h
  cases ht : textF v with
  | inr e => obtain ⟨k,j⟩ := e; rw [ht] at h; cases h
  | inl m =>
   rw [ht] at h
   simp only [Except.ok.injEq,Prod.mk.injEq] at h
   obtain ⟨rfl,rfl⟩ := h
   refine ⟨?_,?_⟩
   ·unfold textW
    rw [ht]
    exact binW_inl (textF_inl ht)
   ·unfold binR at hb
    cases hn : numR s p 2 with
    | error e => rw [hn] at hb; cases hb
    | ok a =>
     obtain ⟨n,q1⟩ := a
     rw [hn] at hb
     have := rawR_ok hb
     omega
theorem binR_w {s b : ByteArray} {p q : Nat} (h : binR s p = .ok (b,q)) : binW b = .inl (numB b.size 2 ++ b) ∧ b.size ≤ s.size := by
 have h1 := binR_ok h
 refine ⟨binW_inl h1.2.2,?_⟩
 unfold binR at h
 cases hn : numR s p 2 with
 | error e => rw [hn] at h; cases h
 | ok a =>
  obtain ⟨n,q1⟩ := a
  rw [hn] at h
  have := rawR_ok h
  omega
def wrb (x : Pr) : Prop := plain x ∧ (x.s.size ≤ 2048 ∧ x.v.size ≤ 2048) ∧ ∃ m,catW (actsP x) = some m ∧ m.size ≤ 4200
theorem catW_1 {a : Act} {m : ByteArray} {r : List Act} {c : ByteArray} (h : actW a = .inl m) (hr : catW r = some c) : catW (a :: r) = some (m ++ c) := by simp only [catW,h,hr]
theorem act5_ok {id : Nat} (h : id < 268435456) : actW ⟨5,(id : Int),emp⟩ = .inl (str (enc id)) := by
 show varW (id : Int) = _
 unfold varW
 rw [if_neg (by omega),Int.toNat_natCast]
theorem valueR_w {id : Nat} {s : ByteArray} {p q : Nat} {x : Pr} (hid : id < 268435456) (ht : typI id ≠ 0) (hs : s.size ≤ 2048) (hp : p ≤ s.size) (h : valueR id s p = .ok (x,q)) : wrb x := by
 have hv : (str (enc id)).size ≤ 4 := by rw [str_size,enc_len]; exact (vsize_pos id).2
 have he : emp.size = 0 := rfl
 unfold valueR at h
 by_cases h9 : typI (id : Int) = 9
 ·rw [if_pos h9] at h
  cases h1 : textR s p with
  | error e => rw [h1] at h; cases h
  | ok a =>
   obtain ⟨a,q1⟩ := a
   rw [h1] at h
   simp only at h
   cases h2 : textR s q1 with
   | error e => rw [h2] at h; cases h
   | ok b =>
    obtain ⟨b,q2⟩ := b
    rw [h2] at h
    simp only [Except.ok.injEq,Prod.mk.injEq] at h
    obtain ⟨rfl,rfl⟩ := h
    have w1 := textR_w h1
    have w2 := textR_w h2
    have s1 := numB_size a.size 2
    have s2 := numB_size b.size 2
    refine ⟨⟨fun h => ?_,fun _ => rfl,fun h => ?_⟩,⟨?_,?_⟩,?_⟩
    ·simp only at h; omega
    ·simp only at h; omega
    ·simp only; omega
    ·simp only; omega
    ·have hac : actsP ⟨id,0,a,b⟩ = [⟨5,id,emp⟩,⟨6,0,a⟩,⟨6,0,b⟩] := by unfold actsP; rw [if_pos h9]
     rw [hac]
     refine ⟨_,catW_1 (act5_ok hid) (catW_1 w1.1 (catW_1 w2.1 rfl)),?_⟩
     simp only [size_app,he]
     omega
 ·rw [if_neg h9] at h
  cases h1 : rdA (typI id) s p with
  | error e => rw [h1] at h; cases h
  | ok a =>
   obtain ⟨⟨n,a⟩,q1⟩ := a
   rw [h1] at h
   simp only [Except.ok.injEq,Prod.mk.injEq] at h
   obtain ⟨rfl,rfl⟩ := h
   have hac : actsP ⟨id,n,a,emp⟩ = [⟨5,id,emp⟩,⟨typI id,n,a⟩] := by unfold actsP; rw [if_neg h9,if_neg ht]
   have fin : ∀ m : ByteArray,m.size ≤ 2052 → actW ⟨typI id,n,a⟩ = .inl m → plain ⟨id,n,a,emp⟩ → a.size ≤ 2048 → wrb ⟨id,n,a,emp⟩ := by
    intro m hm hw hpl ha
    refine ⟨hpl,⟨ha,by simp only [he]; omega⟩,?_⟩
    rw [hac]
    refine ⟨_,catW_1 (act5_ok hid) (catW_1 hw rfl),?_⟩
    simp only [size_app,he]
    omega
   have num : ∀ k : Nat,(k = 1 ∨ k = 2 ∨ k = 4) → typI id = (k : Int) → mapN (numR s p k) = .ok ((n,a),q1) → wrb ⟨id,n,a,emp⟩ := by
    intro k hk hty hm
    cases hn : numR s p k with
    | error e => rw [hn] at hm; cases hm
    | ok b =>
     obtain ⟨N,q2⟩ := b
     rw [hn] at hm
     simp only [mapN,Except.ok.injEq,Prod.mk.injEq] at hm
     obtain ⟨⟨rfl,rfl⟩,rfl⟩ := hm
     have hlt := numR_lt hn
     have hsz := numB_size N k
     refine fin (numB N k) (by omega) ?_ ⟨fun _ => ⟨rfl,rfl⟩,fun h => ?_,fun _ => rfl⟩ (by rw [he]; omega)
     ·have hw : numW (N : Int) k = .inl (numB N k) := numW_ok (by rw [Nat.pow_mul]; exact hlt)
      rw [hty]
      rcases hk with rfl | rfl | rfl <;> exact hw
     ·simp only at h; omega
   unfold rdA at h1
   by_cases t1 : typI (id : Int) = 1
   ·rw [if_pos t1] at h1; exact num 1 (by omega) t1 h1
   rw [if_neg t1] at h1
   by_cases t2 : typI (id : Int) = 2
   ·rw [if_pos t2] at h1; exact num 2 (by omega) t2 h1
   rw [if_neg t2] at h1
   by_cases t4 : typI (id : Int) = 4
   ·rw [if_pos t4] at h1; exact num 4 (by omega) t4 h1
   rw [if_neg t4] at h1
   by_cases t5 : typI (id : Int) = 5
   ·rw [if_pos t5] at h1
    cases hn : varR s p with
    | error e => rw [hn] at h1; cases h1
    | ok b =>
     obtain ⟨N,q2⟩ := b
     rw [hn] at h1
     simp only [mapN,Except.ok.injEq,Prod.mk.injEq] at h1
     obtain ⟨⟨rfl,rfl⟩,rfl⟩ := h1
     have hlt := (varR_le hp hn).2.2
     have hsz : (str (enc N)).size ≤ 4 := by rw [str_size,enc_len]; exact (vsize_pos N).2
     refine fin (str (enc N)) (by omega) ?_ ⟨fun _ => ⟨rfl,rfl⟩,fun h => ?_,fun _ => rfl⟩ (by rw [he]; omega)
     ·rw [t5]; exact act5_ok hlt
     ·simp only at h; omega
   rw [if_neg t5] at h1
   by_cases t6 : typI (id : Int) = 6
   ·rw [if_pos t6] at h1
    cases hn : textR s p with
    | error e => rw [hn] at h1; cases h1
    | ok b =>
     obtain ⟨N,q2⟩ := b
     rw [hn] at h1
     simp only [mapS,Except.ok.injEq,Prod.mk.injEq] at h1
     obtain ⟨⟨rfl,rfl⟩,rfl⟩ := h1
     have hw := textR_w hn
     have hsz := numB_size N.size 2
     refine fin _ ?_ (by rw [t6]; exact hw.1) ⟨fun h => ?_,fun h => rfl,fun _ => rfl⟩ (by omega)
     ·rw [size_app]; omega
     ·simp only at h; omega
   rw [if_neg t6] at h1
   have t7 : typI (id : Int) = 7 := by have := typ_cases id; omega
   cases hn : binR s p with
   | error e => rw [hn] at h1; cases h1
   | ok b =>
    obtain ⟨N,q2⟩ := b
    rw [hn] at h1
    simp only [mapS,Except.ok.injEq,Prod.mk.injEq] at h1
    obtain ⟨⟨rfl,rfl⟩,rfl⟩ := h1
    have hw := binR_w hn
    have hsz := numB_size N.size 2
    refine fin _ ?_ (by rw [t7]; exact hw.1) ⟨fun h => ?_,fun h => rfl,fun _ => rfl⟩ (by omega)
    ·rw [size_app]; omega
    ·simp only at h; omega
theorem oneR_w {pl : Int} {s : ByteArray} {p q : Nat} {ahead : List Pr} {x : Pr} (hs : s.size ≤ 2048) (hp : p ≤ s.size) (h : oneR pl s p ahead = .ok (x,q)) : wrb x := by
 unfold oneR at h
 cases hv : varR s p with
 | error e => obtain ⟨k,q'⟩ := e; rw [hv] at h; cases h
 | ok a =>
  obtain ⟨id,q1⟩ := a
  rw [hv] at h
  simp only at h
  have h1 := varR_le hp hv
  cases hg : groundP pl ahead (id : Int) with
  | some e => obtain ⟨k,r⟩ := e; rw [hg] at h; cases h
  | none =>
   rw [hg] at h
   simp only at h
   cases hw : valueR id s q1 with
   | error e => obtain ⟨k,q'⟩ := e; rw [hw] at h; cases h
   | ok b =>
    obtain ⟨y,q2⟩ := b
    rw [hw] at h
    simp only at h
    split at h
    ·simp only [Except.ok.injEq,Prod.mk.injEq] at h
     obtain ⟨rfl,rfl⟩ := h
     exact valueR_w h1.2.2 (groundP_typ hg).1 hs h1.2.1 hw
    ·cases h
theorem AllP.wrbs {pl : Int} {s : ByteArray} {p : Nat} {l : List Pr} {r : Except (Nat × Nat × Nat) (List Pr)} (h : AllP pl s p l r) (hs : s.size ≤ 2048) (hp : p ≤ s.size) (hl : ∀ x ∈ l,wrb x) : ∀ m,r = .ok m → ∀ x ∈ m,wrb x := by
 induction h with
 | nil h => intro m hm; injection hm with hm; subst hm; exact hl
 | bad h ho => intro m hm; cases hm
 | step h ho hr ih =>
  have h1 := oneR_ok hp ho
  refine ih h1.2.1 fun y hy => ?_
  rcases List.mem_append.1 hy with hy | hy
  ·exact hl y hy
  ·simp only [List.mem_cons,List.not_mem_nil,or_false] at hy
   subst hy
   exact oneR_w hs hp ho
theorem flat_w : ∀ {l : List Pr},(∀ x ∈ l,wrb x) → ∃ C,catW (l.flatMap actsP) = some C ∧ C.size ≤ 4200 * l.length
 | [],_ => ⟨emp,rfl,by decide⟩
 | x :: l,h => by
  obtain ⟨_,_,m,h1,h2⟩ := h x (by simp)
  obtain ⟨C,h3,h4⟩ := flat_w (l := l) fun y hy => h y (by simp [hy])
  refine ⟨m ++ C,by rw [List.flatMap_cons]; exact catW_app h1 h3,?_⟩
  rw [size_app,List.length_cons]
  omega
theorem catW_run : ∀ {l : List Act} {C : ByteArray} (b : ByteArray),catW l = some C → runW b l = .inl (b ++ C)
 | [],C,b,h => by
  simp only [catW,Option.some.injEq] at h
  subst h
  simp only [runW,app_emp']
 | a :: l,C,b,h => by
  simp only [catW] at h
  cases ha : actW a with
  | inr e => rw [ha] at h; simp at h
  | inl m =>
   rw [ha] at h
   cases hl : catW l with
   | none => rw [hl] at h; simp at h
   | some d =>
    rw [hl] at h
    simp only [Option.some.injEq] at h
    subst h
    simp only [runW,ha]
    rw [catW_run (b ++ m) hl,app_assoc]
theorem ReadP_w {pl : Int} {s : ByteArray} {p q : Nat} {l : List Pr} (hs : s.size ≤ 2048) (hp : p ≤ s.size) (h : ReadP pl s p (.ok (l,q))) : ∃ c,encP pl l = .ok c ∧ c.size ≤ 700000 ∧ 0 < c.size ∧ (∀ x ∈ l,plain x) ∧ smallP l := by
 unfold ReadP at h
 cases hv : varR s p with
 | error e => obtain ⟨k,q'⟩ := e; rw [hv] at h; cases h
 | ok a =>
  obtain ⟨n,q1⟩ := a
  rw [hv] at h
  simp only at h
  cases hw : rawR s q1 n with
  | error e => obtain ⟨k,q'⟩ := e; rw [hw] at h; cases h
  | ok b =>
   obtain ⟨all,q2⟩ := b
   rw [hw] at h
   simp only at h
   obtain ⟨r',h1,h2⟩ := h
   have haz := rawR_ok hw
   cases r' with
   | error e => obtain ⟨k,rr,a⟩ := e; cases h2
   | ok m =>
    simp only [Except.ok.injEq,Prod.mk.injEq] at h2
    obtain ⟨rfl,rfl⟩ := h2
    have hc := h1.chk (Nat.zero_le _) (by simp) rfl _ rfl
    have hwr := h1.wrbs (by omega) (Nat.zero_le _) (by simp) _ rfl
    obtain ⟨C,hC,hz⟩ := flat_w hwr
    have hz2 : 4200 * l.length ≤ 4200 * 64 := Nat.mul_le_mul_left _ hc.2
    have hvs := vsize_pos C.size
    refine ⟨str (enc C.size) ++ C,?_,?_,?_,fun x hx => (hwr x hx).1,by omega,fun x hx => ?_⟩
    ·unfold encP
     rw [hc.1,catW_run emp hC,emp_app']
    ·rw [size_app,str_size,enc_len]; omega
    ·rw [size_app,str_size,enc_len]; omega
    ·have := (hwr x hx).2.1
     omega
set_option maxHeartbeats 8000000
attribute [local irreducible] afterS afterOpS opSK OpsS TrS CodeS condS condW thenS thenQ guardS guardTS outS drawS trSK consS
section
variable {σ : AHeap} {Q : Value → AHeap → Prop}
theorem subNe {x : Sb} {cs : Bool} : abin E σ .neq 98 cs (.agg ⟨[.string x.f,.int .i64 x.q,.bool x.nl,.bool x.ai,.int .i64 x.rt]⟩) (.agg ⟨[.string x.f,.int .i64 x.q,.bool x.nl,.bool x.ai,.int .i64 x.rt]⟩) = some (.bool false) := by
 have e1 : (x.f == x.f) = true := by rw [bytes_dec]; simp
 simp only [abin,nonNum,eqAsk,aeq,aeqs,apart,ty98,ty3,ty9,ty4,TI.isAgg,Bool.and_self,Bool.false_eq_true,List.getElem?_cons_zero,List.getElem?_cons_succ,↓reduceIte,beq_self_eq_true,Option.map_some,e1]
 rfl
theorem specKSameS {v w : Value} {l : List Sb} (h1 : DL subC 5 v l) (h2 : DL subC 5 w l) (hl : l.length ≤ 100000) (h : Q (.bool true) σ) : CallS E B 79 [v,w] σ Q := by
 have l1 := DLsb.len h1
 have l2 := DLsb.len h2
 refine call79 (by simp) ?_
 simp only [strip,bodyOf,Tryz.f79,getD_body,keepN,bareOp_mk,List.map_cons,List.map_nil,↓reduceIte,Bool.false_eq_true]
 simp only [↓sbD,sbU,decide_false,Bool.or_self,↓reduceIte,Nat.reduceEqDiff,Nat.reduceLT,reduceCtorEq,isConst,l1,l2]
 refine S_loop (fun m f σ' => σ' = σ ∧ ∃ i : Nat,m + i = l.length ∧ f 5 = .int .i64 i) l.length (Le.refl _) ⟨rfl,0,by omega,by simp only [sbU,↓reduceIte]; rfl⟩ ?_
 rintro m f σ' ⟨rfl,i,hm,f5⟩ hf
 have f0 := hf 0 (by decide) (notMem_wr (by kernel_rfl))
 have f1 := hf 1 (by decide) (notMem_wr (by kernel_rfl))
 simp only [sbU,↓reduceIte,Nat.reduceEqDiff,reduceCtorEq] at f0 f1
 clear hf
 by_cases hi : (i : Int) < (l.length : Int)
 ·have hi' : i < l.length := by omega
  have a1 := DLsb.at h1 hi'
  have a2 := DLsb.at h2 hi'
  have hw := wrap_suc (n := i) (by omega)
  generalize l[i] = x at a1 a2
  have hac : subC x = [.string x.f,.int .i64 x.q,.bool x.nl,.bool x.ai,.int .i64 x.rt] := rfl
  simp only [↓sbD,sbU,tyB,Bool.or_self,↓reduceIte,Nat.reduceEqDiff,Nat.reduceLT,Nat.reduceLeDiff,reduceCtorEq,isConst,f0,f1,f5,l1,l2,hi,a1,a2,hac,subNe,hw]
  exact ⟨_,m - 1,_,rfl,by omega,Le.refl _,rfl,i + 1,by omega,by simp only [sbU,↓reduceIte]⟩
 ·simp only [↓sbD,sbU,decide_false,Bool.or_self,↓reduceIte,Nat.reduceEqDiff,Nat.reduceLT,reduceCtorEq,isConst,f0,f5,l1,hi]
  exact downS_here h
theorem specKSameT {v w : Value} {l : List ByteArray} (h1 : DL strC1 1 v l) (h2 : DL strC1 1 w l) (hl : l.length ≤ 100000) (h : Q (.bool true) σ) : CallS E B 80 [v,w] σ Q := by
 have l1 := DLst.len h1
 have l2 := DLst.len h2
 refine call80 (by simp) ?_
 simp only [strip,bodyOf,Tryz.f80,getD_body,keepN,bareOp_mk,List.map_cons,List.map_nil,↓reduceIte,Bool.false_eq_true]
 simp only [↓sbD,sbU,decide_false,Bool.or_self,↓reduceIte,Nat.reduceEqDiff,Nat.reduceLT,reduceCtorEq,isConst,l1,l2]
 refine S_loop (fun m f σ' => σ' = σ ∧ ∃ i : Nat,m + i = l.length ∧ f 5 = .int .i64 i) l.length (Le.refl _) ⟨rfl,0,by omega,by simp only [sbU,↓reduceIte]; rfl⟩ ?_
 rintro m f σ' ⟨rfl,i,hm,f5⟩ hf
 have f0 := hf 0 (by decide) (notMem_wr (by kernel_rfl))
 have f1 := hf 1 (by decide) (notMem_wr (by kernel_rfl))
 simp only [sbU,↓reduceIte,Nat.reduceEqDiff,reduceCtorEq] at f0 f1
 clear hf
 by_cases hi : (i : Int) < (l.length : Int)
 ·have hi' : i < l.length := by omega
  have a1 := DLst.at h1 hi'
  have a2 := DLst.at h2 hi'
  have hw := wrap_suc (n := i) (by omega)
  generalize l[i] = x at a1 a2
  have hac : strC1 x = [.string x] := rfl
  simp only [↓sbD,sbU,tyB,decide_false,Bool.or_self,↓reduceIte,Nat.reduceEqDiff,Nat.reduceLT,reduceCtorEq,isConst,f0,f1,f5,l1,l2,hi,a1,a2,hac,hw]
  exact ⟨_,m - 1,_,rfl,by omega,Le.refl _,rfl,i + 1,by omega,by simp only [sbU,↓reduceIte]⟩
 ·simp only [↓sbD,sbU,decide_false,Bool.or_self,↓reduceIte,Nat.reduceEqDiff,Nat.reduceLT,reduceCtorEq,isConst,f0,f5,l1,hi]
  exact downS_here h
theorem specKSameI {v w : Value} {l : List Int} (h1 : DL intC 1 v l) (h2 : DL intC 1 w l) (hl : l.length ≤ 100000) (h : Q (.bool true) σ) : CallS E B 81 [v,w] σ Q := by
 have l1 := DLi.len h1
 have l2 := DLi.len h2
 refine call81 (by simp) ?_
 simp only [strip,bodyOf,Tryz.f81,getD_body,keepN,bareOp_mk,List.map_cons,List.map_nil,↓reduceIte,Bool.false_eq_true]
 simp only [↓sbD,sbU,decide_false,Bool.or_self,↓reduceIte,Nat.reduceEqDiff,Nat.reduceLT,reduceCtorEq,isConst,l1,l2]
 refine S_loop (fun m f σ' => σ' = σ ∧ ∃ i : Nat,m + i = l.length ∧ f 5 = .int .i64 i) l.length (Le.refl _) ⟨rfl,0,by omega,by simp only [sbU,↓reduceIte]; rfl⟩ ?_
 rintro m f σ' ⟨rfl,i,hm,f5⟩ hf
 have f0 := hf 0 (by decide) (notMem_wr (by kernel_rfl))
 have f1 := hf 1 (by decide) (notMem_wr (by kernel_rfl))
 simp only [sbU,↓reduceIte,Nat.reduceEqDiff,reduceCtorEq] at f0 f1
 clear hf
 by_cases hi : (i : Int) < (l.length : Int)
 ·have hi' : i < l.length := by omega
  have a1 := DLi.at h1 hi'
  have a2 := DLi.at h2 hi'
  have hw := wrap_suc (n := i) (by omega)
  generalize l[i] = x at a1 a2
  have hac : intC x = [.int .i64 x] := rfl
  simp only [↓sbD,sbU,tyB,decide_false,Bool.or_self,↓reduceIte,Nat.reduceEqDiff,Nat.reduceLT,reduceCtorEq,isConst,f0,f1,f5,l1,l2,hi,a1,a2,hac,hw]
  exact ⟨_,m - 1,_,rfl,by omega,Le.refl _,rfl,i + 1,by omega,by simp only [sbU,↓reduceIte]⟩
 ·simp only [↓sbD,sbU,decide_false,Bool.or_self,↓reduceIte,Nat.reduceEqDiff,Nat.reduceLT,reduceCtorEq,isConst,f0,f5,l1,hi]
  exact downS_here h
theorem boolEq {b cs : Bool} : abin E σ .eql 4 cs (.bool b) (.bool b) = some (.bool true) := by
 cases b <;> rfl
theorem boolNe {b cs : Bool} : abin E σ .neq 4 cs (.bool b) (.bool b) = some (.bool false) := by
 cases b <;> rfl
theorem specKSameW {v w : Value} {x : Wl} (h1 : DL propC 4 v x.props) (h2 : DL propC 4 w x.props) (hl : x.props.length ≤ 100000) (h : Q (.bool true) σ) : CallS E B 78 [.agg ⟨wlC x v⟩,.agg ⟨wlC x w⟩] σ Q := by
 obtain ⟨uv,g1,b1⟩ := boxWl h1
 obtain ⟨uw,g2,b2⟩ := boxWl h2
 simp only [wlC] at b1 b2 ⊢
 refine call78 (by simp) ?_
 simp only [strip,bodyOf,Tryz.f78,getD_body,keepN,bareOp_mk,List.map_cons,List.map_nil,↓reduceIte,Bool.false_eq_true]
 simp only [↓sbD,sbU,tyB,Bool.or_self,↓reduceIte,Nat.reduceEqDiff,Nat.reduceLT,reduceCtorEq,isConst,b1,b2,eq_self,boolEq]
 refine specPSame g1 g2 (by omega) ?_
 simp only [↓sbD,sbU,↓reduceIte,Nat.reduceEqDiff,Nat.reduceLT]
 exact downS_here h
theorem specKSame {p : Pk} {v w : Value} (h1 : PkV p v) (h2 : PkV p w) (l1 : p.props.length ≤ 100000) (l2 : p.will.props.length ≤ 100000) (l3 : p.subs.length ≤ 100000) (l4 : p.filts.length ≤ 100000) (l5 : p.codes.length ≤ 100000) (h : Q (.bool true) σ) :
  CallS E B 33 [v,w] σ Q := by
 obtain ⟨vp,vw,vs,vf,vc,d1,d2,d3,d4,d5,rfl⟩ := h1
 obtain ⟨wp,ww,ws,wf,wc,e1,e2,e3,e4,e5,rfl⟩ := h2
 obtain ⟨up,uw,us,uf,uc,d1,d2,d3,d4,d5,_,b1⟩ := boxPk d1 d2 d3 d4 d5
 obtain ⟨xp,xw,xs,xf,xc,e1,e2,e3,e4,e5,_,b2⟩ := boxPk e1 e2 e3 e4 e5
 simp only [pkC] at b1 b2 ⊢
 refine call33 (by simp) ?_
 simp only [strip,bodyOf,Tryz.f33,getD_body,keepN,bareOp_mk,lapp_cons,lapp_nil,List.map_cons,List.map_nil,↓reduceIte,Bool.false_eq_true]
 simp only [↓sbD,sbU,tyB,decide_false,Bool.or_self,↓reduceIte,Nat.reduceEqDiff,Nat.reduceLT,reduceCtorEq,isConst,b1,b2,eq_self,boolEq,boolNe]
 refine specPSame d1 e1 (by omega) ?_
 simp only [↓sbD,sbU,tyB,↓reduceIte,Nat.reduceEqDiff,Nat.reduceLT,Nat.reduceAdd,Nat.reduceLeDiff,reduceCtorEq]
 refine specKSameW (x := p.will) d2 e2 (by omega) ?_
 simp only [↓sbD,sbU,tyB,↓reduceIte,Nat.reduceEqDiff,Nat.reduceLT,reduceCtorEq]
 refine specKSameS d3 e3 (by omega) ?_
 simp only [↓sbD,sbU,tyB,↓reduceIte,Nat.reduceEqDiff,Nat.reduceLT,reduceCtorEq]
 refine specKSameT d4 e4 (by omega) ?_
 simp only [↓sbD,sbU,tyB,↓reduceIte,Nat.reduceEqDiff,Nat.reduceLT,reduceCtorEq]
 refine specKSameI d5 e5 (by omega) ?_
 simp only [↓sbD,sbU,↓reduceIte,Nat.reduceEqDiff,Nat.reduceLT]
 exact downS_here h
end
section
variable {σ : AHeap} {Q : Value → AHeap → Prop}
theorem specKPlain {v : Value} {l : List Pr} (hl : DL propC 4 v l) (hs : l.length ≤ 1000) (hq : ∀ w σ',DL propC 4 w (l.map plainP) → Kept σ [] σ' [] → Q w σ') : CallS E B 82 [v] σ Q := by
 have hlen := DLp.len hl
 refine call82 (by simp) ?_
 simp only [strip,bodyOf,Tryz.f82,getD_body,keepN,bareOp_mk,List.map_cons,List.map_nil,↓reduceIte,Bool.false_eq_true]
 simp (disch := first | assumption | simp) only [↓sbD,sbU]
 refine S_loop (fun m f σ' => ∃ (i : Nat) (w : Value) (fp : List Nat),m + i = l.length ∧ f 4 = .int .i64 i ∧ f 3 = w ∧ DG propC 4 σ' w ((l.take i).map plainP) fp ∧ Kept σ [] σ' fp) l.length (Le.refl _) ⟨0,_,[],by omega,by simp (disch := first | assumption | simp) only [sbU,↓reduceIte]; rfl,rfl,by simp (disch := first | assumption | simp) only [sbU,↓reduceIte,Nat.reduceEqDiff]; exact DG.nil,Kept.refl _ _⟩ ?_
 rintro m f σ1 ⟨i,w,fp,hm,f4,f3,hg,hk⟩ hf
 have f0 := hf 0 (by decide) (notMem_wr (by kernel_rfl))
 simp (disch := first | assumption | simp) only [sbU,↓reduceIte,reduceCtorEq] at f0
 clear hf
 by_cases hi : (i : Int) < (l.length : Int)
 ·have hi' : i < l.length := by omega
  have hia := DLp.at hl hi'
  have hw := wrap_suc (n := i) (by omega)
  have htk : (l.take (i + 1)).map plainP = (l.take i).map plainP ++ [plainP l[i]] := by rw [List.take_succ_eq_append_getElem hi',List.map_append]; rfl
  generalize l[i] = x at hia htk
  have hac : propC x = [.int .i64 x.id,.int .i64 x.n,.string x.s,.string x.v] := rfl
  simp (disch := first | assumption | simp) only [↓sbD,sbU,tyB,Bool.or_self,↓reduceIte,Nat.reduceEqDiff,Nat.reduceLT,Nat.reduceAdd,Nat.reduceLeDiff,reduceCtorEq,pairs,isConst,splice,ZV.val,f0,f4,hlen,hi,hia,hac,AS_new,zePr]
  intro y hy
  generalize hσ2 : AHeap.set (AHeap.set σ1 y _) y _ = σ2
  have k2 : Kept σ1 [] σ2 [] := by rw [← hσ2]; exact ((Kept.refl _ []).setD hy).setD hy
  have gy2 : σ2.get y = .cells [.int .i64 x.id,.int .i64 0,.string ⟨#[]⟩,.string ⟨#[]⟩] true 0 := by rw [← hσ2]; exact AHeap.get_set_same _ _ _
  clear hσ2
  try simp (disch := first | assumption | simp) only [↓sbD,sbU,tyB,Nat.reduceMul,Nat.reduceSub,Int.reduceEq,Int.reduceLT,Int.reduceLE,Int.reduceNe,Nat.reduceBneDiff,Nat.reduceBEq,decide_false,gt_iff_lt,Bool.or_self,Bool.false_eq_true,Nat.mul_one,Nat.one_mul,Nat.zero_mul,↓reduceIte,Nat.reduceEqDiff,Nat.reduceLT,Nat.reduceAdd,Nat.reduceLeDiff,reduceCtorEq,goInt,pairs,isConst,TI.isAgg,splice,boxS,Edp,dpv,Nat.beq_eq,ZV.val,List.any_cons,List.any_nil,Bool.false_and,gy2]
  refine specRType ?_
  by_cases h9 : typI x.id = 9
  ·have hp : plainP x = ⟨x.id,0,x.s,x.v⟩ := by unfold plainP; rw [if_pos h9]
   simp (disch := first | assumption | simp) only [↓sbD,sbU,tyB,Nat.reduceBneDiff,decide_false,gt_iff_lt,Bool.or_self,Bool.false_eq_true,Nat.one_mul,Nat.zero_mul,↓reduceIte,Nat.reduceEqDiff,Nat.reduceLT,Nat.reduceAdd,Nat.reduceLeDiff,reduceCtorEq,pairs,isConst,splice,Edp,dpv,ZV.val,h9,f0,f3,f4,hia,hac,gy2]
   refine app_pr (xs := [plainP x]) (hg.kept ((k2.setD hy).setD hy) (fun _ _ h => by cases h)) (by rw [hp]; exact .inr ⟨1,rfl⟩) (by simp only [List.length_map,List.length_take,List.length_cons,List.length_nil]; omega) fun σ4 v4 fp4 k4 g4 => ?_
   simp (disch := first | assumption | simp) only [↓sbD,sbU,↓reduceIte,Nat.reduceEqDiff,Nat.reduceLT,isConst,f4,hw]
   exact ⟨_,m - 1,σ4,rfl,by omega,Le.refl _,i + 1,v4,fp4,by omega,by simp (disch := first | assumption | simp) only [sbU,↓reduceIte],rfl,by rw [htk]; exact g4,hk.trans ((((k2.setD hy).setD hy).wid (gp := fp) (gp' := fp) (fun _ h => by cases h) (fun _ h => .inr h)).trans k4)⟩
  by_cases h6 : typI x.id = 6
  ·have hp : plainP x = ⟨x.id,0,x.s,emp⟩ := by unfold plainP; rw [if_neg h9,if_pos (.inl h6)]
   simp (disch := first | assumption | simp) only [↓sbD,sbU,tyB,Int.reduceEq,Nat.reduceBneDiff,decide_false,gt_iff_lt,Bool.or_self,Bool.false_eq_true,Nat.one_mul,Nat.zero_mul,↓reduceIte,Nat.reduceEqDiff,Nat.reduceLT,Nat.reduceAdd,Nat.reduceLeDiff,reduceCtorEq,pairs,isConst,splice,Edp,dpv,ZV.val,h6,f0,f3,f4,hia,hac,gy2]
   refine app_pr (xs := [plainP x]) (hg.kept (k2.setD hy) (fun _ _ h => by cases h)) (by rw [hp]; exact .inr ⟨1,rfl⟩) (by simp only [List.length_map,List.length_take,List.length_cons,List.length_nil]; omega) fun σ4 v4 fp4 k4 g4 => ?_
   simp (disch := first | assumption | simp) only [↓sbD,sbU,↓reduceIte,Nat.reduceEqDiff,Nat.reduceLT,isConst,f4,hw]
   exact ⟨_,m - 1,σ4,rfl,by omega,Le.refl _,i + 1,v4,fp4,by omega,by simp (disch := first | assumption | simp) only [sbU,↓reduceIte],rfl,by rw [htk]; exact g4,hk.trans (((k2.setD hy).wid (gp := fp) (gp' := fp) (fun _ h => by cases h) (fun _ h => .inr h)).trans k4)⟩
  by_cases h7 : typI x.id = 7
  ·have hp : plainP x = ⟨x.id,0,x.s,emp⟩ := by unfold plainP; rw [if_neg h9,if_pos (.inr h7)]
   simp (disch := first | assumption | simp) only [↓sbD,sbU,tyB,Int.reduceEq,Nat.reduceBneDiff,decide_false,gt_iff_lt,Bool.or_self,Bool.false_eq_true,Nat.one_mul,Nat.zero_mul,↓reduceIte,Nat.reduceEqDiff,Nat.reduceLT,Nat.reduceAdd,Nat.reduceLeDiff,reduceCtorEq,pairs,isConst,splice,Edp,dpv,ZV.val,h7,f0,f3,f4,hia,hac,gy2]
   refine app_pr (xs := [plainP x]) (hg.kept (k2.setD hy) (fun _ _ h => by cases h)) (by rw [hp]; exact .inr ⟨1,rfl⟩) (by simp only [List.length_map,List.length_take,List.length_cons,List.length_nil]; omega) fun σ4 v4 fp4 k4 g4 => ?_
   simp (disch := first | assumption | simp) only [↓sbD,sbU,↓reduceIte,Nat.reduceEqDiff,Nat.reduceLT,isConst,f4,hw]
   exact ⟨_,m - 1,σ4,rfl,by omega,Le.refl _,i + 1,v4,fp4,by omega,by simp (disch := first | assumption | simp) only [sbU,↓reduceIte],rfl,by rw [htk]; exact g4,hk.trans (((k2.setD hy).wid (gp := fp) (gp' := fp) (fun _ h => by cases h) (fun _ h => .inr h)).trans k4)⟩
  have hp : plainP x = ⟨x.id,x.n,emp,emp⟩ := by unfold plainP; rw [if_neg h9,if_neg (fun h => h.elim h6 h7)]
  simp (disch := first | assumption | simp) only [↓sbD,sbU,tyB,Nat.reduceBneDiff,decide_false,gt_iff_lt,Bool.or_self,Bool.false_eq_true,Nat.one_mul,Nat.zero_mul,↓reduceIte,Nat.reduceEqDiff,Nat.reduceLT,Nat.reduceAdd,Nat.reduceLeDiff,reduceCtorEq,pairs,isConst,splice,Edp,dpv,ZV.val,h9,h6,h7,f0,f3,f4,hia,hac,gy2]
  refine app_pr (xs := [plainP x]) (hg.kept (k2.setD hy) (fun _ _ h => by cases h)) (by rw [hp]; exact .inr ⟨1,rfl⟩) (by simp only [List.length_map,List.length_take,List.length_cons,List.length_nil]; omega) fun σ4 v4 fp4 k4 g4 => ?_
  simp (disch := first | assumption | simp) only [↓sbD,sbU,↓reduceIte,Nat.reduceEqDiff,Nat.reduceLT,isConst,f4,hw]
  exact ⟨_,m - 1,σ4,rfl,by omega,Le.refl _,i + 1,v4,fp4,by omega,by simp (disch := first | assumption | simp) only [sbU,↓reduceIte],rfl,by rw [htk]; exact g4,hk.trans (((k2.setD hy).wid (gp := fp) (gp' := fp) (fun _ h => by cases h) (fun _ h => .inr h)).trans k4)⟩
 ·have hii : i = l.length := by omega
  subst hii
  rw [List.take_length] at hg
  simp (disch := first | assumption | simp) only [↓sbD,sbU,decide_false,Bool.or_self,↓reduceIte,Nat.reduceEqDiff,Nat.reduceLT,reduceCtorEq,isConst,f0,f3,f4,hlen,hi]
  exact downS_here (hq _ _ hg.dl hk.none)
theorem specBare11 {p : Pk} {v : Value} (hp : PkV p v) (hs : p.props.length ≤ 1000) (hq : ∀ w σ',PkV (ackP p.kind p.id p.rea (p.props.map plainP)) w → Kept σ [] σ' [] → Q w σ') : CallS E B 34 [v] σ Q := by
 obtain ⟨vp,vw,vs,vf,vc,d1,d2,d3,d4,d5,rfl⟩ := hp
 obtain ⟨up,uw,us,uf,uc,d1,d2,d3,d4,d5,_,hbx⟩ := boxPk d1 d2 d3 d4 d5
 simp only [pkC] at hbx ⊢
 refine call34 (by simp) ?_
 simp only [strip,bodyOf,Tryz.f34,getD_body,keepN,bareOp_mk,lessOp_mk,List.map_cons,List.map_nil,↓reduceIte,Nat.reduceEqDiff,Bool.false_eq_true]
 simp only [↓sbD,sbU,tyB,↓reduceIte,Nat.reduceEqDiff,Nat.reduceLT,reduceCtorEq,AS_new,zePk,hbx]
 intro b hb
 refine specKPlain d1 hs fun w σ1 hw k1 => ?_
 have gb : (σ.set b _).get b = _ := AHeap.get_set_same σ b (.cells [.int .i64 0,.int .i64 0,.int .i64 0,.slice none 0 0,.bool false,.int .i64 0,.string emp,.bool false,.string emp,.string emp,.int .i64 0,.bool false,.slice none 0 0,.bool false,.string emp,.bool false,.string emp,.bool false,.string emp,.string emp,.int .i64 0,.bool false,.bool false,.slice none 0 0,.slice none 0 0,.slice none 0 0] true 0)
 have gb1 := (k1.at gb (by simp) (by simp)).1
 have hvc := dl_vc hw
 simp only [↓sbD,sbU,tyB,↓reduceIte,Nat.reduceEqDiff,Nat.reduceLT,Nat.reduceAdd,Nat.reduceLeDiff,pairs,splice,ZV.val,gb1,hvc.1,hvc.2]
 refine drawS_l (fl := [(1,8),(3,8),(5,8)]) (by kernel_rfl) ?_ ?_
 rotate_left; simp only [lastP_cc,lastP_one]; rotate_left
 ·simp only [List.all_cons,List.all_nil,floatS,List.getElem?_cons_succ,List.getElem?_cons_zero,List.getElem?_toArray,Region.wanted,Bool.not_true,Bool.or_true,reads,looksWeak,aev_tmp,upd_at,↓reduceIte,Nat.reduceLT,Nat.reduceAdd,blkOf,Bool.and_self,Bool.false_eq_true]
  try rfl
 simp only [↓sbD,sbU,tyB,↓reduceIte,Nat.reduceEqDiff,Nat.reduceLT,Nat.reduceAdd,Nat.reduceLeDiff,res_cellc,resC_some]
 exact downS_here (hq _ _ ⟨_,_,_,_,_,hw,.inl ⟨rfl,rfl⟩,.inl ⟨rfl,rfl⟩,.inl ⟨rfl,rfl⟩,.inl ⟨rfl,rfl⟩,rfl⟩ ((((Kept.refl σ []).setD hb).trans k1).setD hb))
end
end Go.Proofs.YtonmjhdcijibgaaGreatDoor.AbsB
namespace Go.Proofs.YtonmjhdcijibgaaGreatDoor.AbsB
open Go AbsYtonmjhdcijibgaaGreatDoor Abs
set_option maxRecDepth 100000
set_option maxHeartbeats 4000000
set_option linter.unusedSimpArgs false
set_option linter.unusedVariables false
theorem catW_cons {a : Act} {l : List Act} {D : ByteArray} (h : catW (a :: l) = some D) : ∃ m c,actW a = .inl m ∧ catW l = some c ∧ D = m ++ c := by
 simp only [catW] at h
 split at h
 ·rename_i m c h1 h2
  simp only [Option.some.injEq] at h
  exact ⟨m,c,h1,h2,h.symm⟩
 ·cases h
theorem numW_inl {n : Int} {k : Nat} {m : ByteArray} (h : numW n k = .inl m) : 0 ≤ n ∧ n < (2 ^ (8 * k) : Nat) ∧ m = numB n.toNat k := by
 unfold numW at h
 split at h
 ·cases h
 ·rename_i h1
  injection h with h
  exact ⟨by omega,by omega,h.symm⟩
theorem encP_pos {pl : Int} {l : List Pr} {c : ByteArray} (h : encP pl l = .ok c) : 0 < c.size := by
 unfold encP at h
 cases hc : chk pl [] l with
 | some e => rw [hc] at h; cases h
 | none =>
  rw [hc] at h
  simp only at h
  cases hr : runW emp (l.flatMap actsP) with
  | inr e => obtain ⟨k,q⟩ := e; rw [hr] at h; cases h
  | inl b =>
   rw [hr] at h
   simp only [Except.ok.injEq] at h
   subst h
   rw [size_app,str_size,enc_len]
   have := (vsize_pos b.size).1
   omega
theorem num_at (A B : ByteArray) {n k : Nat} (hk : k = 1 ∨ k = 2 ∨ k = 4) (hn : n < 2 ^ (8 * k)) {q : Nat} (hq : A.size = q) : numR (A ++ (numB n k ++ B)) q k = .ok (n,q + k) := by
 rw [← hq,← app_assoc]; exact num_mid A B hk hn
theorem firstA_kind {k : Int} (h : firstA k ≠ 0) : firstA k / 16 = k ∧ 0 < firstA k := by
 unfold firstA at h ⊢
 split
 ·rename_i h1; omega
 ·split
  ·rename_i h1 h2; omega
  ·rename_i h1 h2; rw [if_neg h1,if_neg h2] at h; exact absurd rfl h
theorem numB_z {n k : Nat} (hk : k = 1 ∨ k = 2 ∨ k = 4) : (numB n k).size = k := numB_k hk
theorem tailA_val {p : Pk} {s m1 m2 : ByteArray} (hb : propsB p.kind p.props = .ok s) (hz : s.size ≤ 700000) (h1 : m1.size = 2)
  (hc : catW (if p.props = [] then (if p.rea = 0 then [] else [⟨1,p.rea,emp⟩]) else [⟨1,p.rea,emp⟩,⟨8,0,s⟩]) = some m2) :
  TailA p.kind 2 (m1 ++ m2) 2 (if alw p.kind p.rea = false then .error (2,129,2) else .ok (p.rea,p.props.map plainP)) := by
 have he0 : emp.size = 0 := rfl
 unfold TailA
 by_cases hp : p.props = []
 ·rw [if_pos hp] at hc
  rw [hp,List.map_nil]
  by_cases hr : p.rea = 0
  ·rw [if_pos hr] at hc
   simp only [catW,Option.some.injEq] at hc
   subst hc
   rw [app_emp',codeR_at (by omega),hr]
   by_cases ha : alw p.kind ((0 : Nat) : Int) = false
   ·have ha' : alw p.kind 0 = false := ha
    simp only [ha,ha',if_true]
   ·have ha' : ¬ alw p.kind 0 = false := ha
    rw [if_neg ha,if_neg ha',if_neg (by omega)]
    rfl
  ·rw [if_neg hr] at hc
   obtain ⟨m,c,g1,g2,rfl⟩ := catW_cons hc
   simp only [catW,Option.some.injEq] at g2
   subst g2
   obtain ⟨n1,n2,rfl⟩ := numW_inl (show numW p.rea 1 = .inl m from g1)
   have hnum := num_at m1 emp (n := p.rea.toNat) (k := 1) (by omega) (by omega) h1
   have hcode : codeR (m1 ++ (numB p.rea.toNat 1 ++ emp)) 2 = (p.rea.toNat,3) := by unfold codeR; rw [hnum]
   have hzz : (m1 ++ (numB p.rea.toNat 1 ++ emp)).size = 3 := by rw [size_app,size_app,h1,numB_z (by omega),he0]
   have hi : ((p.rea.toNat : Nat) : Int) = p.rea := by omega
   rw [hcode]
   simp only [hi]
   by_cases ha : alw p.kind p.rea = false
   ·simp only [ha,if_true]
   ·rw [if_neg ha,if_neg ha,if_neg (by omega)]
 ·rw [if_neg hp] at hc
  obtain ⟨m,c,g1,g2,rfl⟩ := catW_cons hc
  obtain ⟨m',c',g3,g4,rfl⟩ := catW_cons g2
  simp only [catW,Option.some.injEq] at g4
  subst g4
  have hs : m' = s := by
   have g5 : (Sum.inl s : ByteArray ⊕ (Nat × Nat)) = Sum.inl m' := g3
   injection g5 with g5
   exact g5.symm
  subst hs
  obtain ⟨n1,n2,rfl⟩ := numW_inl (show numW p.rea 1 = .inl m from g1)
  have he : encP p.kind p.props = .ok m' := by
   unfold propsB at hb
   rw [if_neg hp] at hb
   exact hb
  have hpos := encP_pos he
  have hnum := num_at m1 (m' ++ emp) (n := p.rea.toNat) (k := 1) (by omega) (by omega) h1
  have hcode : codeR (m1 ++ (numB p.rea.toNat 1 ++ (m' ++ emp))) 2 = (p.rea.toNat,3) := by unfold codeR; rw [hnum]
  have hzz : (m1 ++ (numB p.rea.toNat 1 ++ (m' ++ emp))).size = 3 + m'.size := by rw [size_app,size_app,size_app,h1,numB_z (by omega),he0]; omega
  have hi : ((p.rea.toNat : Nat) : Int) = p.rea := by omega
  rw [hcode]
  simp only [hi]
  by_cases ha : alw p.kind p.rea = false
  ·simp only [ha,if_true]
  ·rw [if_neg ha,if_neg ha,if_pos (by omega)]
   have hread := read_encP (A := m1 ++ numB p.rea.toNat 1) (t := emp) he hz
   have e1 : m1 ++ numB p.rea.toNat 1 ++ m' ++ emp = m1 ++ (numB p.rea.toNat 1 ++ (m' ++ emp)) := by simp only [app_assoc]
   have e2 : (m1 ++ numB p.rea.toNat 1).size = 3 := by rw [size_app,h1,numB_z (by omega)]
   rw [e1,e2] at hread
   refine ⟨_,hread,?_⟩
   simp only [tailE]
   rw [if_pos (by omega)]
theorem decA_val {p : Pk} {s b : ByteArray} (hk : firstA p.kind ≠ 0) (hb : propsB p.kind p.props = .ok s) (hz : s.size ≤ 700000) (hc : catW (actsA p s) = some b) :
  DecA (firstA p.kind) b (if p.id = 0 then .error (3,130,0) else if alw p.kind p.rea = false then .error (2,129,2) else .ok (ackP p.kind p.id p.rea (p.props.map plainP))) := by
 obtain ⟨k1,k2⟩ := firstA_kind hk
 unfold actsA at hc
 obtain ⟨m1,m2,g1,g2,rfl⟩ := catW_cons hc
 obtain ⟨n1,n2,rfl⟩ := numW_inl (show numW p.id 2 = .inl m1 from g1)
 have hnum := num_at emp m2 (n := p.id.toNat) (k := 2) (q := 0) (by omega) (by omega) rfl
 rw [emp_app'] at hnum
 have hi : ((p.id.toNat : Nat) : Int) = p.id := by omega
 unfold DecA
 rw [if_neg (by rw [k1]; omega),hnum,k1]
 simp only
 by_cases h0 : p.id = 0
 ·rw [if_pos h0,if_pos (by omega)]
 ·rw [if_neg h0,if_neg (by omega)]
  refine ⟨_,tailA_val hb hz (numB_z (by omega)) g2,?_⟩
  by_cases ha : alw p.kind p.rea = false
  ·rw [if_pos ha,if_pos ha]; rfl
  ·rw [if_neg ha,if_neg ha]
   simp only [ackM,hi]
theorem ackBack {p : Pk} {fb : Int × ByteArray} {r : Except E3 Pk} (h : EncA p (.ok fb)) (hf : fewPr p.props) (hd : DecA fb.1 fb.2 r) : r = .ok (ackP p.kind p.id p.rea (p.props.map plainP)) := by
 unfold EncA at h
 split at h
 ·cases h
 ·rename_i hk
  cases hb : propsB p.kind p.props with
  | error e => rw [hb] at h; cases h
  | ok s =>
   rw [hb] at h
   simp only at h
   have hz : s.size ≤ 700000 := by
    unfold propsB at hb
    split at hb
    ·simp only [Except.ok.injEq] at hb; subst hb; exact Nat.zero_le _
    ·have := encP_size hf hb; omega
   unfold MadeR at h
   cases hw : runW emp (actsA p s) with
   | inr e => obtain ⟨k,q⟩ := e; rw [hw] at h; cases h
   | inl b =>
    rw [hw] at h
    simp only at h
    obtain ⟨d,h1,h2⟩ := h
    cases d with
    | error e => cases h2
    | ok y =>
     simp only [Except.ok.injEq] at h2
     subst h2
     obtain ⟨D,hD,rfl⟩ := runW_cat hw
     rw [emp_app'] at *
     have hv := decA_val hk hb hz hD
     have e1 := h1.det hv
     have e2 := hd.det hv
     rw [e2]
     split at e1
     ·cases e1
     ·rename_i g1
      rw [if_neg g1]
      split at e1
      ·cases e1
      ·rename_i g2
       rw [if_neg g2]
theorem codeR_lt {s : ByteArray} {q : Nat} : (codeR s q).1 < 256 := by
 unfold codeR
 cases hn : numR s q 1 with
 | error e => exact (by decide : 0 < 256)
 | ok a => obtain ⟨n,q'⟩ := a; exact numR_lt hn
theorem ackAgain {f : Int} {s : ByteArray} {p : Pk} (h : DecA f s (.ok p)) (hs : s.size ≤ 2048) : ∃ b,EncA p (.ok (f,b)) ∧ DecA f b (.ok p) ∧ smallP p.props ∧ b.size ≤ 800000 ∧ ∃ i c l,p = ackP (f / 16) i c l := by
 unfold DecA at h
 split at h
 ·cases h
 ·rename_i hf
  cases hn : numR s 0 2 with
  | error e => obtain ⟨k,q⟩ := e; rw [hn] at h; cases h
  | ok a =>
   obtain ⟨id,q⟩ := a
   have hlt := numR_lt hn
   have hq := numR_ok hn
   rw [hn] at h
   simp only at h
   split at h
   ·cases h
   ·rename_i hid
    obtain ⟨r',ht,hr⟩ := h
    cases r' with
    | error e => cases hr
    | ok cl =>
     obtain ⟨c,l⟩ := cl
     simp only [ackM,Except.ok.injEq] at hr
     unfold TailA at ht
     split at ht
     ·cases ht
     ·rename_i ha
      have hcl := codeR_lt (s := s) (q := q)
      have hcq := codeR_le (s := s) (q := q) hq.2
      have hcase : c = ((codeR s q).1 : Int) ∧ ∃ sp,propsB (f / 16) l = .ok sp ∧ sp.size ≤ 700000 ∧ (∀ x ∈ l,plain x) ∧ smallP l := by
       split at ht
       ·obtain ⟨x,h1,h2⟩ := ht
        cases x with
        | error e => cases h2
        | ok lq =>
         obtain ⟨l',q'⟩ := lq
         simp only [tailE] at h2
         split at h2
         ·simp only [Except.ok.injEq,Prod.mk.injEq] at h2
          obtain ⟨rfl,rfl⟩ := h2
          obtain ⟨cc,w1,w2,w3,w4,w5⟩ := ReadP_w hs hcq h1
          refine ⟨rfl,?_⟩
          by_cases hl : l = []
          ·exact ⟨emp,by unfold propsB; rw [if_pos hl],Nat.zero_le _,w4,w5⟩
          ·exact ⟨cc,by unfold propsB; rw [if_neg hl,w1],w2,w4,w5⟩
         ·cases h2
       ·simp only [Except.ok.injEq,Prod.mk.injEq] at ht
        obtain ⟨rfl,rfl⟩ := ht
        exact ⟨rfl,emp,by unfold propsB; rw [if_pos rfl],Nat.zero_le _,by simp,by simp,by simp⟩
      obtain ⟨hc,sp,e1,e2,e3,e4⟩ := hcase
      have hfk : firstA (f / 16) = f := by
       by_cases g : f = firstA (f / 16)
       ·exact g.symm
       ·exact absurd (.inr g) hf
      have hf0 : ¬ f ≤ 0 := fun g => hf (.inl g)
      have hp : p.kind = f / 16 ∧ p.id = id ∧ p.rea = c ∧ p.props = l := by rw [hr]; exact ⟨rfl,rfl,rfl,rfl⟩
      obtain ⟨p1,p2,p3,p4⟩ := hp
      have hk : firstA p.kind ≠ 0 := by rw [p1,hfk]; omega
      have hb : propsB p.kind p.props = .ok sp := by rw [p1,p4]; exact e1
      have hlt1 : (codeR s q).1 < 2 ^ (8 * 1) := by omega
      have w2 : actW ⟨2,p.id,emp⟩ = .inl (numB id 2) := by rw [p2]; exact numW_ok (by omega)
      have w1 : actW ⟨1,p.rea,emp⟩ = .inl (numB (codeR s q).1 1) := by rw [p3,hc]; exact numW_ok hlt1
      have w8 : actW ⟨8,0,sp⟩ = .inl sp := rfl
      have he0 : emp.size = 0 := rfl
      have s2 : (numB id 2).size ≤ 4 := numB_size _ _
      have s1 : (numB (codeR s q).1 1).size ≤ 4 := numB_size _ _
      have hcat : ∃ b,catW (actsA p sp) = some b ∧ b.size ≤ 800000 := by
       unfold actsA
       by_cases hl : p.props = []
       ·rw [if_pos hl]
        by_cases hr0 : p.rea = 0
        ·rw [if_pos hr0]
         exact ⟨_,catW_1 w2 rfl,by rw [size_app,he0]; omega⟩
        ·rw [if_neg hr0]
         exact ⟨_,catW_1 w2 (catW_1 w1 rfl),by simp only [size_app,he0]; omega⟩
       ·rw [if_neg hl]
        exact ⟨_,catW_1 w2 (catW_1 w1 (catW_1 w8 rfl)),by simp only [size_app,he0]; omega⟩
      obtain ⟨b,hb1,hb2⟩ := hcat
      have hv := decA_val hk hb e2 hb1
      have hpp : p = ackP p.kind p.id p.rea (p.props.map plainP) := by
       rw [map_plain (by rw [p4]; exact e3),p1,p2,p3,p4]; exact hr
      rw [if_neg (by rw [p2]; omega),if_neg (by rw [p1,p3,hc]; exact ha),← hpp,p1,hfk] at hv
      refine ⟨b,?_,hv,by rw [p4]; exact e4,hb2,id,c,l,hr⟩
      unfold EncA
      rw [if_neg hk,hb,p1,hfk]
      simp only
      unfold MadeR
      rw [catW_run emp hb1,emp_app']
      exact ⟨.ok p,hv,rfl⟩
theorem encA_size {p : Pk} {fb : Int × ByteArray} (h : EncA p (.ok fb)) (hf : fewPr p.props) : fb.2.size ≤ 100000 := by
 have he0 : emp.size = 0 := rfl
 unfold EncA at h
 split at h
 ·cases h
 ·cases hb : propsB p.kind p.props with
  | error e => rw [hb] at h; cases h
  | ok s =>
   rw [hb] at h
   simp only at h
   have hz : s.size ≤ 28844 := by
    unfold propsB at hb
    split at hb
    ·simp only [Except.ok.injEq] at hb; subst hb; exact Nat.zero_le _
    ·exact encP_size hf hb
   unfold MadeR at h
   cases hw : runW emp (actsA p s) with
   | inr e => obtain ⟨k,q⟩ := e; rw [hw] at h; cases h
   | inl b =>
    rw [hw] at h
    simp only at h
    obtain ⟨d,h1,h2⟩ := h
    cases d with
    | error e => cases h2
    | ok y =>
     simp only [Except.ok.injEq] at h2
     subst h2
     have := runW_le _ emp b 0 (Nat.le_refl _) hw
     unfold actsA at this
     split at this
     ·split at this <;> simp only [List.map_cons,List.map_nil,List.sum_cons,List.sum_nil,he0] at this <;> simp only <;> omega
     ·simp only [List.map_cons,List.map_nil,List.sum_cons,List.sum_nil,he0] at this
      simp only
      omega
set_option maxHeartbeats 8000000
attribute [local irreducible] afterS afterOpS opSK OpsS TrS CodeS condS condW thenS thenQ guardS guardTS outS drawS trSK consS
theorem fraNe {σ : AHeap} {cs : Bool} {f : Int} {a : ByteArray} : abin E σ .neq 57 cs (.agg ⟨[.int .i64 f,.string a]⟩) (.agg ⟨[.int .i64 f,.string a]⟩) = some (.bool false) := by
 have e1 : (a == a) = true := by rw [bytes_dec]; simp
 simp only [abin,nonNum,eqAsk,aeq,aeqs,apart,ty57,ty3,ty9,TI.isAgg,Bool.and_self,Bool.false_eq_true,List.getElem?_cons_zero,List.getElem?_cons_succ,↓reduceIte,beq_self_eq_true,Option.map_some,e1]
 rfl
theorem fraNe0 {σ : AHeap} {cs : Bool} : abin E σ .neq 57 cs (.agg ⟨[.int .i64 0,.string emp]⟩) (.agg ⟨[.int .i64 0,.string ⟨#[]⟩]⟩) = some (.bool false) := fraNe
theorem pk_zero : PkV pkz (.agg ⟨zeL⟩) := ⟨_,_,_,_,_,.inl ⟨rfl,rfl⟩,.inl ⟨rfl,rfl⟩,.inl ⟨rfl,rfl⟩,.inl ⟨rfl,rfl⟩,.inl ⟨rfl,rfl⟩,rfl⟩
theorem law5 {H : AHeap} {vs : List Value} (hB0 : Ext B H) (h : ArgsTyped E H 8 [54,3,9] vs) : CallW E 5 vs H fun r _ => r = .bool true := by
 obtain ⟨u,vs1,rfl,t1,e1⟩ := h.cons'
 obtain ⟨u2,vs2,rfl,t2,e2⟩ := e1.cons'
 obtain ⟨u3,vs3,rfl,t3,e3⟩ := e2.cons'
 obtain rfl := e3.nil'
 obtain ⟨p,hp,_⟩ := typed_pk t1
 obtain ⟨n,rfl⟩ := typed_i t2
 obtain ⟨s,rfl⟩ := typed_s t3
 clear t1 t2 t3 e1 e2 e3 h
 have key : CallS E B 5 [u,.int .i64 n,.string s] .empty fun r _ => r = .bool true := by
  obtain ⟨vp,vw,vs,vf,vc,d1,d2,d3,d4,d5,rfl⟩ := hp
  obtain ⟨up,uw,us,uf,uc,d1,d2,d3,d4,d5,hzz,hbx⟩ := boxPk d1 d2 d3 d4 d5
  have hp : PkV p (.agg ⟨pkC p up uw us uf uc⟩) := ⟨_,_,_,_,_,d1,d2,d3,d4,d5,rfl⟩
  have hfz : ∀ cs,Value.agg ⟨pkC p up uw us uf uc⟩ = .agg ⟨cs⟩ → frzL E.ng E.nb cs = true := fun cs h => by injection h with h; injection h with h; rw [← h]; exact hzz
  clear d1 d2 d3 d4 d5 hzz
  simp only [pkC] at hp hfz hbx ⊢
  refine call5 (by simp) ?_
  simp only [strip,bodyOf,Tryz.f5,getD_body,keepN,bareOp_mk,lessOp_mk,lapp_cons,lapp_nil,List.map_cons,List.map_nil,↓reduceIte,Nat.reduceEqDiff,Bool.false_eq_true]
  simp (disch := first | assumption | simp) only [↓sbD,sbU,tyB,↓reduceIte,Nat.reduceEqDiff,Nat.reduceLT,Nat.reduceAdd,Nat.reduceLeDiff,hbx]
  refine specKFew hp hfz fun few hfew => ?_
  cases few with
  | false =>
   simp (disch := first | assumption | simp) only [↓sbD,sbU,↓reduceIte,Nat.reduceEqDiff,Nat.reduceLT,not_bool]
   refine specS30 ?_
   simp (disch := first | assumption | simp) only [↓sbD,sbU,↓reduceIte,Nat.reduceLT]
   exact downS_here rfl
  | true =>
   have hf := hfew rfl
   have hsm : smallP p.props := ⟨by have := hf.props.1; omega,fun x hx => by have := hf.props.2 x hx; omega⟩
   by_cases hsz : (2048 : Int) < (s.size : Int)
   ·simp (disch := first | assumption | simp) only [↓sbD,sbU,tyB,↓reduceIte,Nat.reduceEqDiff,Nat.reduceLT,goInt,isConst,not_bool,hsz]
    refine specS30 ?_
    simp (disch := first | assumption | simp) only [↓sbD,sbU,↓reduceIte,Nat.reduceLT]
    exact downS_here rfl
   simp (disch := first | assumption | simp) only [↓sbD,sbU,tyB,decide_false,↓reduceIte,Nat.reduceEqDiff,Nat.reduceLT,Nat.reduceAdd,Nat.reduceLeDiff,goInt,isConst,not_bool,hsz]
   refine specAEnc hp hsm (fun fb he σ1 k1 => ?_) fun k rr a he σ1 d z k1 hd hn => ?_
   focus
    have hfz2 := encA_size he hf.props
    simp (disch := first | assumption | simp) only [↓sbD,sbU,tyB,↓reduceIte,Nat.reduceEqDiff,Nat.reduceLT,Nat.reduceAdd,Nat.reduceLeDiff,isConst,splice,AS_new,zeFra]
    intro c hc
    try simp (disch := first | assumption | simp) only [↓sbD,sbU,tyB,Nat.reduceMul,Nat.reduceSub,Int.reduceEq,Int.reduceLT,Int.reduceLE,Int.reduceNe,Nat.reduceBneDiff,Nat.reduceBEq,decide_false,gt_iff_lt,Bool.or_self,Bool.false_eq_true,Nat.mul_one,Nat.one_mul,Nat.zero_mul,↓reduceIte,Nat.reduceEqDiff,Nat.reduceLT,Nat.reduceAdd,Nat.reduceLeDiff,reduceCtorEq,goInt,pairs,isConst,TI.isAgg,splice,boxS,Edp,dpv,Nat.beq_eq,ZV.val,List.any_cons,List.any_nil,Bool.false_and,AHeap.get_set_same]
    generalize hσ2 : AHeap.set (AHeap.set σ1 c _) c _ = σ2
    have gc2 : σ2.get c = .cells [.int .i64 fb.1,.string fb.2] true 0 := by rw [← hσ2]; exact AHeap.get_set_same _ _ _
    clear hσ2
    try simp (disch := first | assumption | simp) only [↓sbD,sbU,tyB,Nat.reduceMul,Nat.reduceSub,Int.reduceEq,Int.reduceLT,Int.reduceLE,Int.reduceNe,Nat.reduceBneDiff,Nat.reduceBEq,decide_false,gt_iff_lt,Bool.or_self,Bool.false_eq_true,Nat.mul_one,Nat.one_mul,Nat.zero_mul,↓reduceIte,Nat.reduceEqDiff,Nat.reduceLT,Nat.reduceAdd,Nat.reduceLeDiff,reduceCtorEq,goInt,pairs,isConst,TI.isAgg,splice,boxS,Edp,dpv,Nat.beq_eq,ZV.val,List.any_cons,List.any_nil,Bool.false_and,gc2]
    refine specADec (by omega) (fun y hy v2 σ3 hv2 k3 => ?_) fun k rr a hy σ3 d z k3 hd hn => by cases ackBack he hf.props hy
    have hyy := ackBack he hf.props hy
    simp only [Except.ok.injEq] at hyy
    subst hyy
    obtain ⟨ga,gb,gc,gd,ge,g1,g2,g3,g4,g5,rfl⟩ := hv2
    have hv2 : PkV (ackP p.kind p.id p.rea (p.props.map plainP)) (.agg ⟨pkC (ackP p.kind p.id p.rea (p.props.map plainP)) ga gb gc gd ge⟩) := ⟨_,_,_,_,_,g1,g2,g3,g4,g5,rfl⟩
    have vg1 := dl_vc g1
    have vg2 := dl_vc g2
    have vg3 := dl_vc g3
    have vg4 := dl_vc g4
    have vg5 := dl_vc g5
    simp only [pkC,ackP,pkz] at hv2 ⊢
    simp (disch := first | assumption | simp) only [↓sbD,sbU,tyB,↓reduceIte,Nat.reduceEqDiff,Nat.reduceLT,Nat.reduceAdd,Nat.reduceLeDiff,isConst,splice,AS_new,zePk,vg1.2,vg2.2,vg3.2,vg4.2,vg5.2]
    intro t ht
    try simp (disch := first | assumption | simp) only [↓sbD,sbU,tyB,Nat.reduceMul,Nat.reduceSub,Int.reduceEq,Int.reduceLT,Int.reduceLE,Int.reduceNe,Nat.reduceBneDiff,Nat.reduceBEq,decide_false,gt_iff_lt,Bool.or_self,Bool.false_eq_true,Nat.mul_one,Nat.one_mul,Nat.zero_mul,↓reduceIte,Nat.reduceEqDiff,Nat.reduceLT,Nat.reduceAdd,Nat.reduceLeDiff,reduceCtorEq,goInt,pairs,isConst,TI.isAgg,splice,boxS,Edp,dpv,Nat.beq_eq,ZV.val,List.any_cons,List.any_nil,Bool.false_and,AHeap.get_set_same,vg1.1,vg1.2,vg2.1,vg2.2,vg3.1,vg3.2,vg4.1,vg4.2,vg5.1,vg5.2,Bool.and_self,Bool.and_true,List.length_cons,List.length_nil,List.cons_append,List.nil_append,List.drop_succ_cons,List.drop_zero,decide_true]
    generalize hσ4 : AHeap.set (AHeap.set σ3 t _) t _ = σ4
    have gt : σ4.get t = .cells [.int .i64 p.kind,.int .i64 p.id,.int .i64 p.rea,ga,.bool false,.int .i64 0,.string emp,.bool false,.string emp,.string emp,.int .i64 0,.bool false,gb,.bool false,.string emp,.bool false,.string emp,.bool false,.string emp,.string emp,.int .i64 0,.bool false,.bool false,gc,gd,ge] true 0 := by rw [← hσ4]; exact AHeap.get_set_same _ _ _
    clear hσ4
    try simp (disch := first | assumption | simp) only [↓sbD,sbU,tyB,Nat.reduceMul,Nat.reduceSub,Int.reduceEq,Int.reduceLT,Int.reduceLE,Int.reduceNe,Nat.reduceBneDiff,Nat.reduceBEq,decide_false,gt_iff_lt,Bool.or_self,Bool.false_eq_true,Nat.mul_one,Nat.one_mul,Nat.zero_mul,↓reduceIte,Nat.reduceEqDiff,Nat.reduceLT,Nat.reduceAdd,Nat.reduceLeDiff,reduceCtorEq,goInt,pairs,isConst,TI.isAgg,splice,boxS,Edp,dpv,Nat.beq_eq,ZV.val,List.any_cons,List.any_nil,Bool.false_and,gt]
    refine specBare11 hp (by have := hf.props.1; omega) fun w σ5 hw k5 => ?_
    have gt5 := (k5.at gt (by simp) (by simp)).1
    try simp (disch := first | assumption | simp) only [↓sbD,sbU,↓reduceIte,Nat.reduceEqDiff,Nat.reduceLT]
    refine specKSame (p := (ackP p.kind p.id p.rea (p.props.map plainP))) hv2 hw (by simp only [ackP,List.length_map]; have := hf.props.1; omega) (by simp [ackP,pkz]) (by simp [ackP,pkz]) (by simp [ackP,pkz]) (by simp [ackP,pkz]) ?_
    simp (disch := first | assumption | simp) only [↓sbD,sbU,↓reduceIte,Nat.reduceEqDiff,Nat.reduceLT,not_bool]
    refine drawS_l (fl := [(3,5)]) (by kernel_rfl) ?_ ?_
    rotate_left; simp only [lastP_cc,lastP_one]; rotate_left
    ·simp only [List.all_cons,List.all_nil,floatS,List.getElem?_cons_succ,List.getElem?_cons_zero,List.getElem?_toArray,Region.wanted,Bool.not_false,Bool.or_true,reads,looksWeak,aev_tmp,upd_at,↓reduceIte,Nat.reduceEqDiff,Nat.reduceLT,Nat.reduceAdd,blkOf,oeq_refl,dead_cells,Bool.and_self,Bool.false_eq_true,Bool.not_false,gt,gt5]
     try rfl
    simp (disch := first | assumption | simp) only [↓sbD,sbU,tyB,↓reduceIte,Nat.reduceEqDiff,Nat.reduceLT,Nat.reduceAdd,Nat.reduceLeDiff,pairs,splice,ZV.val]
   rotate_left
   focus
    simp (disch := first | assumption | simp) only [↓sbD,sbU,tyB,Bool.or_self,↓reduceIte,Nat.reduceEqDiff,Nat.reduceLT,Nat.reduceAdd,Nat.reduceLeDiff,pairs,isConst,splice,ZV.val,AS_new,zeFra]
    intro c hc
    try simp (disch := first | assumption | simp) only [↓sbD,sbU,tyB,↓reduceIte,Nat.reduceEqDiff,Nat.reduceLT,Nat.reduceAdd,Nat.reduceLeDiff,pairs,splice,ZV.val,fraNe0]
   all_goals
    refine specADec (by omega) (fun p2 hy2 v3 σ6 hv3 k6 => ?_) fun k2 r2 a2 hy2 σ6 d2 z2 k6 hd2 hn2 => ?_
    rotate_left
    ·simp only [zeL,pkC,pkz]
     simp (disch := first | assumption | simp) only [↓sbD,sbU,tyB,↓reduceIte,Nat.reduceEqDiff,Nat.reduceLT,Nat.reduceAdd,Nat.reduceLeDiff,pairs,isConst,splice,ZV.val,AS_new,zePk]
     intro e he2
     try simp (disch := first | assumption | simp) only [↓sbD,sbU,tyB,Nat.reduceMul,Nat.reduceSub,Int.reduceEq,Int.reduceLT,Int.reduceLE,Int.reduceNe,Nat.reduceBneDiff,Nat.reduceBEq,decide_false,gt_iff_lt,Bool.or_self,Bool.false_eq_true,Nat.mul_one,Nat.one_mul,Nat.zero_mul,↓reduceIte,Nat.reduceEqDiff,Nat.reduceLT,Nat.reduceAdd,Nat.reduceLeDiff,reduceCtorEq,goInt,pairs,isConst,TI.isAgg,splice,boxS,Edp,dpv,Nat.beq_eq,ZV.val,List.any_cons,List.any_nil,Bool.false_and,AHeap.get_set_same]
     refine specKSame (p := pkz) pk_zero pk_zero (by decide) (by decide) (by decide) (by decide) (by decide) ?_
     simp (disch := first | assumption | simp) only [↓sbD,sbU,↓reduceIte,Nat.reduceLT]
     refine specS30 ?_
     simp (disch := first | assumption | simp) only [↓sbD,sbU,↓reduceIte,Nat.reduceEqDiff,Nat.reduceLT]
     exact downS_here rfl
    obtain ⟨b,hE,hD2,hsm2,hbz,i2,c2,l2,rfl⟩ := ackAgain hy2 (by omega)
    obtain ⟨ma,mb,mc,md,me,m1,m2,m3,m4,m5,rfl⟩ := hv3
    have hv3 : PkV (ackP (n / 16) i2 c2 l2) (.agg ⟨pkC (ackP (n / 16) i2 c2 l2) ma mb mc md me⟩) := ⟨_,_,_,_,_,m1,m2,m3,m4,m5,rfl⟩
    have vm1 := dl_vc m1
    have vm2 := dl_vc m2
    have vm3 := dl_vc m3
    have vm4 := dl_vc m4
    have vm5 := dl_vc m5
    simp only [pkC,ackP,pkz] at hv3 ⊢
    simp (disch := first | assumption | simp) only [↓sbD,sbU,tyB,↓reduceIte,Nat.reduceEqDiff,Nat.reduceLT,Nat.reduceAdd,Nat.reduceLeDiff,isConst,splice,AS_new,zePk,vm1.2,vm2.2,vm3.2,vm4.2,vm5.2]
    intro t ht
    try simp (disch := first | assumption | simp) only [↓sbD,sbU,tyB,Nat.reduceMul,Nat.reduceSub,Int.reduceEq,Int.reduceLT,Int.reduceLE,Int.reduceNe,Nat.reduceBneDiff,Nat.reduceBEq,decide_false,gt_iff_lt,Bool.or_self,Bool.false_eq_true,Nat.mul_one,Nat.one_mul,Nat.zero_mul,↓reduceIte,Nat.reduceEqDiff,Nat.reduceLT,Nat.reduceAdd,Nat.reduceLeDiff,reduceCtorEq,goInt,pairs,isConst,TI.isAgg,splice,boxS,Edp,dpv,Nat.beq_eq,ZV.val,List.any_cons,List.any_nil,Bool.false_and,AHeap.get_set_same,vm1.1,vm1.2,vm2.1,vm2.2,vm3.1,vm3.2,vm4.1,vm4.2,vm5.1,vm5.2,Bool.and_self,Bool.and_true,List.length_cons,List.length_nil,List.cons_append,List.nil_append,List.drop_succ_cons,List.drop_zero,decide_true]
    generalize hσ7 : AHeap.set (AHeap.set σ6 t _) t _ = σ7
    have gt : σ7.get t = .cells [.int .i64 (n / 16),.int .i64 i2,.int .i64 c2,ma,.bool false,.int .i64 0,.string emp,.bool false,.string emp,.string emp,.int .i64 0,.bool false,mb,.bool false,.string emp,.bool false,.string emp,.bool false,.string emp,.string emp,.int .i64 0,.bool false,.bool false,mc,md,me] true 0 := by rw [← hσ7]; exact AHeap.get_set_same _ _ _
    clear hσ7
    try simp (disch := first | assumption | simp) only [↓sbD,sbU,tyB,Nat.reduceMul,Nat.reduceSub,Int.reduceEq,Int.reduceLT,Int.reduceLE,Int.reduceNe,Nat.reduceBneDiff,Nat.reduceBEq,decide_false,gt_iff_lt,Bool.or_self,Bool.false_eq_true,Nat.mul_one,Nat.one_mul,Nat.zero_mul,↓reduceIte,Nat.reduceEqDiff,Nat.reduceLT,Nat.reduceAdd,Nat.reduceLeDiff,reduceCtorEq,goInt,pairs,isConst,TI.isAgg,splice,boxS,Edp,dpv,Nat.beq_eq,ZV.val,List.any_cons,List.any_nil,Bool.false_and,gt]
    refine specAEnc hv3 hsm2 (fun fb2 he2 σ8 k8 => ?_) fun k2 r2 a2 he2 σ8 d2 z2 k8 hd2 hn2 => by cases he2.det hE
    have hfe := he2.det hE
    simp only [Except.ok.injEq] at hfe
    subst hfe
    have gt8 := (k8.at gt (by simp) (by simp)).1
    simp (disch := first | assumption | simp) only [↓sbD,sbU,tyB,↓reduceIte,Nat.reduceEqDiff,Nat.reduceLT,Nat.reduceAdd,Nat.reduceLeDiff,splice,AS_new,zeFra]
    intro c' hc'
    try simp (disch := first | assumption | simp) only [↓sbD,sbU,tyB,Nat.reduceMul,Nat.reduceSub,Int.reduceEq,Int.reduceLT,Int.reduceLE,Int.reduceNe,Nat.reduceBneDiff,Nat.reduceBEq,decide_false,gt_iff_lt,Bool.or_self,Bool.false_eq_true,Nat.mul_one,Nat.one_mul,Nat.zero_mul,↓reduceIte,Nat.reduceEqDiff,Nat.reduceLT,Nat.reduceAdd,Nat.reduceLeDiff,reduceCtorEq,goInt,pairs,isConst,TI.isAgg,splice,boxS,Edp,dpv,Nat.beq_eq,ZV.val,List.any_cons,List.any_nil,Bool.false_and,AHeap.get_set_same]
    generalize hσ9 : AHeap.set (AHeap.set σ8 c' _) c' _ = σ9
    have k9 : Kept σ8 [] σ9 [] := by rw [← hσ9]; exact ((Kept.refl _ []).setD hc').setD hc'
    have gc9 : σ9.get c' = .cells [.int .i64 n,.string b] true 0 := by rw [← hσ9]; exact AHeap.get_set_same _ _ _
    have gt9 := (k9.at gt8 (by simp) (by simp)).1
    clear hσ9
    try simp (disch := first | assumption | simp) only [↓sbD,sbU,tyB,Nat.reduceMul,Nat.reduceSub,Int.reduceEq,Int.reduceLT,Int.reduceLE,Int.reduceNe,Nat.reduceBneDiff,Nat.reduceBEq,decide_false,gt_iff_lt,Bool.or_self,Bool.false_eq_true,Nat.mul_one,Nat.one_mul,Nat.zero_mul,↓reduceIte,Nat.reduceEqDiff,Nat.reduceLT,Nat.reduceAdd,Nat.reduceLeDiff,reduceCtorEq,goInt,pairs,isConst,TI.isAgg,splice,boxS,Edp,dpv,Nat.beq_eq,ZV.val,List.any_cons,List.any_nil,Bool.false_and,gc9]
    refine specADec (by omega) (fun y2 hy3 v4 σ10 hv4 k10 => ?_) fun k2 r2 a2 hy3 σ10 d2 z2 k10 hd2 hn2 => by cases hy3.det hD2
    have hye := hy3.det hD2
    simp only [Except.ok.injEq] at hye
    subst hye
    have gt10 := (k10.at gt9 (by simp) (by simp)).1
    obtain ⟨oa,ob,oc,od,oe,o1,o2,o3,o4,o5,rfl⟩ := hv4
    have hv4 : PkV (ackP (n / 16) i2 c2 l2) (.agg ⟨pkC (ackP (n / 16) i2 c2 l2) oa ob oc od oe⟩) := ⟨_,_,_,_,_,o1,o2,o3,o4,o5,rfl⟩
    have vo1 := dl_vc o1
    have vo2 := dl_vc o2
    have vo3 := dl_vc o3
    have vo4 := dl_vc o4
    have vo5 := dl_vc o5
    simp only [pkC,ackP,pkz] at hv4 ⊢
    simp (disch := first | assumption | simp) only [↓sbD,sbU,tyB,↓reduceIte,Nat.reduceEqDiff,Nat.reduceLT,Nat.reduceAdd,Nat.reduceLeDiff,isConst,splice,AS_new,zePk,vo1.2,vo2.2,vo3.2,vo4.2,vo5.2]
    intro t' ht'
    try simp (disch := first | assumption | simp) only [↓sbD,sbU,tyB,Nat.reduceMul,Nat.reduceSub,Int.reduceEq,Int.reduceLT,Int.reduceLE,Int.reduceNe,Nat.reduceBneDiff,Nat.reduceBEq,decide_false,gt_iff_lt,Bool.or_self,Bool.false_eq_true,Nat.mul_one,Nat.one_mul,Nat.zero_mul,↓reduceIte,Nat.reduceEqDiff,Nat.reduceLT,Nat.reduceAdd,Nat.reduceLeDiff,reduceCtorEq,goInt,pairs,isConst,TI.isAgg,splice,boxS,Edp,dpv,Nat.beq_eq,ZV.val,List.any_cons,List.any_nil,Bool.false_and,AHeap.get_set_same,vo1.1,vo1.2,vo2.1,vo2.2,vo3.1,vo3.2,vo4.1,vo4.2,vo5.1,vo5.2,Bool.and_self,Bool.and_true,List.length_cons,List.length_nil,List.cons_append,List.nil_append,List.drop_succ_cons,List.drop_zero,decide_true]
    generalize hσ11 : AHeap.set (AHeap.set σ10 t' _) t' _ = σ11
    have gt' : σ11.get t' = .cells [.int .i64 (n / 16),.int .i64 i2,.int .i64 c2,oa,.bool false,.int .i64 0,.string emp,.bool false,.string emp,.string emp,.int .i64 0,.bool false,ob,.bool false,.string emp,.bool false,.string emp,.bool false,.string emp,.string emp,.int .i64 0,.bool false,.bool false,oc,od,oe] true 0 := by rw [← hσ11]; exact AHeap.get_set_same _ _ _
    have k11 : Kept σ10 [] σ11 [] := by rw [← hσ11]; exact ((Kept.refl _ []).setD ht').setD ht'
    clear hσ11
    try simp (disch := first | assumption | simp) only [↓sbD,sbU,tyB,Nat.reduceMul,Nat.reduceSub,Int.reduceEq,Int.reduceLT,Int.reduceLE,Int.reduceNe,Nat.reduceBneDiff,Nat.reduceBEq,decide_false,gt_iff_lt,Bool.or_self,Bool.false_eq_true,Nat.mul_one,Nat.one_mul,Nat.zero_mul,↓reduceIte,Nat.reduceEqDiff,Nat.reduceLT,Nat.reduceAdd,Nat.reduceLeDiff,reduceCtorEq,goInt,pairs,isConst,TI.isAgg,splice,boxS,Edp,dpv,Nat.beq_eq,ZV.val,List.any_cons,List.any_nil,Bool.false_and,gt']
    have gt11 := (k11.at gt10 (by simp) (by simp)).1
    simp (disch := first | assumption | simp) only [↓sbD,sbU,tyB,↓reduceIte,Nat.reduceEqDiff,Nat.reduceLT,Nat.reduceAdd,Nat.reduceLeDiff,gt11,gt']
    refine specKSame (p := (ackP (n / 16) i2 c2 l2)) hv3 hv4 (by have := hsm2.1; simp only [ackP] at this ⊢; omega) (by simp [ackP,pkz]) (by simp [ackP,pkz]) (by simp [ackP,pkz]) (by simp [ackP,pkz]) ?_
    simp (disch := first | assumption | simp) only [↓sbD,sbU,↓reduceIte,Nat.reduceEqDiff,Nat.reduceLT]
    refine specS30 ?_
    simp (disch := first | assumption | simp) only [↓sbD,sbU,↓reduceIte,Nat.reduceEqDiff,Nat.reduceLT]
    exact downS_here rfl
 exact (key H (ext_holds hB0)).mono fun r H' ⟨σ',_,h⟩ => h
end Go.Proofs.YtonmjhdcijibgaaGreatDoor.AbsB
