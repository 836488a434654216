/-
  Parts of a law's proof.
-/
import Derived.Test.YtjkhhdknplelcaaGreatDoorAYrqbJ
import Derived.Test.YtjkhhdknplelcaaGreatDoorAPrqeJ
namespace Go.Proofs.YtjkhhdknplelcaaGreatDoor.AbsB
open Go AbsYtjkhhdknplelcaaGreatDoor Abs
set_option maxRecDepth 100000
set_option maxHeartbeats 8000000
set_option linter.unusedSimpArgs false
set_option linter.unusedVariables false
attribute [local irreducible] afterS afterOpS opSK OpsS TrS CodeS condS condW thenS thenQ guardS guardTS outS drawS trSK consS
theorem DL.bareF {α : Type} {enc : α → List Value} {sz : Nat} {v : Value} {l : List α} (h : DL enc sz v l) : DL enc sz (bare v) l ∧ frz E.ng E.nb (bare v) = true := by
 rcases h with ⟨h1,rfl⟩ | ⟨m,rfl⟩
 ·exact ⟨.inl ⟨h1,rfl⟩,frz_nils⟩
 ·refine ⟨.inr ⟨_,rfl⟩,?_⟩
  show frz E.ng E.nb (dsl (if m ≤ 1 then m else 0) sz l.length (l.flatMap enc)) = true
  rw [frz_dsl]
  split <;> simp_all
theorem boxPk {p : Pk} {vp vw vs vf vc : Value} (d1 : DL propC 4 vp p.props) (d2 : DL propC 4 vw p.will.props) (d3 : DL subC 5 vs p.subs) (d4 : DL strC1 1 vf p.filts) (d5 : DL intC 1 vc p.codes) :
  ∃ up uw us uf uc,DL propC 4 up p.props ∧ DL propC 4 uw p.will.props ∧ DL subC 5 us p.subs ∧ DL strC1 1 uf p.filts ∧ DL intC 1 uc p.codes ∧ frzL E.ng E.nb (pkC p up uw us uf uc) = true ∧
   ∀ σ,boxS 29 E (pkC p vp vw vs vf vc) σ = .val (dptr (pkC p up uw us uf uc)) σ := by
 by_cases hz : frzL E.ng E.nb (pkC p vp vw vs vf vc) = true
 ·exact ⟨vp,vw,vs,vf,vc,d1,d2,d3,d4,d5,hz,fun σ => box_deep (by rw [hz]; rfl)⟩
 ·have hb : bareL (pkC p vp vw vs vf vc) = pkC p (bare vp) (bare vw) (bare vs) (bare vf) (bare vc) := rfl
  have hf : frzL E.ng E.nb (pkC p (bare vp) (bare vw) (bare vs) (bare vf) (bare vc)) = true := by
   simp only [pkC,frzL,frz_int,frz_bool,frz_str,d1.bareF.2,d2.bareF.2,d3.bareF.2,d4.bareF.2,d5.bareF.2,Bool.and_self]
  refine ⟨_,_,_,_,_,d1.bareF.1,d2.bareF.1,d3.bareF.1,d4.bareF.1,d5.bareF.1,hf,fun σ => ?_⟩
  unfold boxS
  rw [if_neg (by simp [hz]),hb,if_pos (by rw [hf]; rfl)]
theorem boxWl {w : Wl} {vw : Value} (d : DL propC 4 vw w.props) : ∃ uw,DL propC 4 uw w.props ∧ ∀ σ,boxS 24 E (wlC w vw) σ = .val (dptr (wlC w uw)) σ := by
 by_cases hz : frzL E.ng E.nb (wlC w vw) = true
 ·exact ⟨vw,d,fun σ => box_deep (by rw [hz]; rfl)⟩
 ·have hb : bareL (wlC w vw) = wlC w (bare vw) := rfl
  have hf : frzL E.ng E.nb (wlC w (bare vw)) = true := by
   simp only [wlC,frzL,frz_int,frz_bool,frz_str,d.bareF.2,Bool.and_self]
  refine ⟨_,d.bareF.1,fun σ => ?_⟩
  unfold boxS
  rw [if_neg (by simp [hz]),hb,if_pos (by rw [hf]; rfl)]
section
variable {σ : AHeap} {Q : Value → AHeap → Prop}
theorem and_nat {n m : Nat} (hn : n < 2 ^ 62) (hm : m < 2 ^ 62) : aint .and .i64 (n : Int) (m : Int) = some (.int .i64 ((n &&& m : Nat) : Int)) := by
 have key : ((BitVec.ofInt 64 (n : Int)) &&& (BitVec.ofInt 64 (m : Int))).toNat = n &&& m := by
  rw [BitVec.toNat_and,BitVec.ofInt_natCast,BitVec.ofInt_natCast,BitVec.toNat_ofNat,BitVec.toNat_ofNat]
  rw [Nat.mod_eq_of_lt (by omega),Nat.mod_eq_of_lt (by omega)]
 have hle : n &&& m ≤ n := Nat.and_le_left
 show some (Value.int .i64 (IntKind.i64.wrap ((((BitVec.ofInt 64 (n : Int)) &&& (BitVec.ofInt 64 (m : Int))).toNat : Nat) : Int))) = _
 rw [key,wrap64 ⟨by omega,by omega⟩]
end
section
variable {σ : AHeap} {Q : Value → AHeap → Prop}
end
abbrev E3 := Nat × Nat × Nat
def pkz : Pk := ⟨0,0,0,[],false,0,emp,⟨false,emp,emp,0,false,[]⟩,false,emp,false,emp,false,emp,emp,0,false,false,[],[],[]⟩
def zeL : List Value := pkC pkz (.slice none 0 0) (.slice none 0 0) (.slice none 0 0) (.slice none 0 0) (.slice none 0 0)
theorem zePk : azero E 29 = some [.int .i64 0,.int .i64 0,.int .i64 0,.slice none 0 0,.bool false,.int .i64 0,.string emp,.bool false,.string emp,.string emp,.int .i64 0,.bool false,.slice none 0 0,.bool false,.string emp,.bool false,.string emp,.bool false,.string emp,.string emp,.int .i64 0,.bool false,.bool false,.slice none 0 0,.slice none 0 0,.slice none 0 0] := rfl
theorem dl_vc {α : Type} {enc : α → List Value} {sz : Nat} {v : Value} {l : List α} (h : DL enc sz v l) : vcells v = [v] ∧ oneCell v = true := by
 rcases h with ⟨_,rfl⟩ | ⟨m,rfl⟩ <;> exact ⟨rfl,rfl⟩
section
variable {σ : AHeap} {Q : Value → AHeap → Prop} {r q : Nat} {s : ByteArray}
end
def MadeR (f : Int) (D : ByteArray → Except E3 Pk → Prop) (w : ByteArray ⊕ (Nat × Nat)) (r : Except E3 (Int × ByteArray)) : Prop := match w with
 | .inr (k,q) => r = .error (k,129,q)
 | .inl b => ∃ d,D b d ∧ match d with
  | .error e => r = .error e
  | .ok _ => r = .ok (f,b)
theorem zeFra : azero E 33 = some [.int .i64 0,.string emp] := rfl
theorem runW_le : ∀ (l : List Act) (b c : ByteArray) (n : Nat),b.size ≤ n → runW b l = .inl c → c.size ≤ n + (l.map fun a => a.s.size + 4).sum
 | [],b,c,n,h,he => by injection he with he; subst he; simpa using h
 | a :: l,b,c,n,h,he => by
  simp only [runW] at he
  cases ha : actW a with
  | inr e => rw [ha] at he; cases he
  | inl m =>
   rw [ha] at he
   have := actW_size ha
   have := runW_le l (b ++ m) c (n + (a.s.size + 4)) (by rw [size_app]; omega) he
   simp only [List.map_cons,List.sum_cons]
   omega
section
variable {σ : AHeap} {Q : Value → AHeap → Prop}
end
theorem actsP_sum {p : Pr} (h1 : p.s.size ≤ 200) (h2 : p.v.size ≤ 200) : ((actsP p).map fun a => a.s.size + 4).sum ≤ 412 := by
 have he : emp.size = 0 := rfl
 unfold actsP
 by_cases h9 : typI p.id = 9
 ·rw [if_pos h9]; simp only [List.map_cons,List.map_nil,List.sum_cons,List.sum_nil,he]; omega
 ·rw [if_neg h9]
  by_cases h0 : typI p.id = 0
  ·rw [if_pos h0]; simp only [List.map_cons,List.map_nil,List.sum_cons,List.sum_nil,he]; omega
  ·rw [if_neg h0]; simp only [List.map_cons,List.map_nil,List.sum_cons,List.sum_nil,he]; omega
theorem acts_sum : ∀ {l : List Pr},(∀ p ∈ l,p.s.size ≤ 200 ∧ p.v.size ≤ 200) → ((l.flatMap actsP).map fun a => a.s.size + 4).sum ≤ 412 * l.length
 | [],_ => by simp
 | p :: l,h => by
  have h1 := h p (by simp)
  have h2 := actsP_sum h1.1 h1.2
  have h3 := acts_sum (l := l) fun q hq => h q (by simp [hq])
  simp only [List.flatMap_cons,List.map_append,List.sum_append,List.length_cons]
  omega
theorem encP_size {pl : Int} {l : List Pr} {c : ByteArray} (hf : fewPr l) (h : encP pl l = .ok c) : c.size ≤ 28844 := by
 unfold encP at h
 cases hc : chk pl [] l with
 | some e => rw [hc] at h; cases h
 | none =>
  rw [hc] at h
  simp only at h
  cases hr : runW emp (l.flatMap actsP) with
  | inr e => rw [hr] at h; cases h
  | inl b =>
   rw [hr] at h
   simp only [Except.ok.injEq] at h
   subst h
   have h1 := runW_le _ emp b 0 (Nat.le_refl _) hr
   have h2 := acts_sum hf.2
   have h3 := hf.1
   have h4 : 412 * l.length ≤ 412 * 70 := Nat.mul_le_mul_left _ h3
   rw [size_app,str_size,enc_len]
   have := (vsize_pos b.size).2
   omega
section
variable {σ : AHeap} {Q : Value → AHeap → Prop} {r q p : Nat} {s : ByteArray}
end
end Go.Proofs.YtjkhhdknplelcaaGreatDoor.AbsB
