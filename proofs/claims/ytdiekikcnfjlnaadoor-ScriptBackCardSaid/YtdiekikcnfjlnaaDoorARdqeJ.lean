/-
  Parts of a law's proof.
-/
import Derived.Test.YtdiekikcnfjlnaaDoorAFwqdJ
namespace Go.Proofs.YtdiekikcnfjlnaaDoor.AbsA
open Go AbsYtdiekikcnfjlnaaDoor Abs
set_option maxRecDepth 100000
set_option maxHeartbeats 4000000
set_option linter.unusedSimpArgs false
set_option linter.unusedVariables false
section
variable {σ : AHeap} {r p : Nat} {s : ByteArray} {Q : Value → AHeap → Prop}
theorem binR_ok {v : ByteArray} {q : Nat} (h : binR s p = .ok (v,q)) : q ≤ s.size ∧ p ≤ q ∧ v.size ≤ 65535 := by
 unfold binR at h
 cases hn : numR s p 2 with
 | error e => rw [hn] at h; cases h
 | ok a =>
  obtain ⟨n,q'⟩ := a
  rw [hn] at h
  have h1 := rawR_ok h
  have h2 := numR_ok hn
  refine ⟨h1.2.2.2.1,by omega,?_⟩
  have h3 := h1.2.2.2.2
  rw [Int.toNat_natCast] at h3
  unfold numR at hn
  cases hb : rawR s p (2 : Nat) with
  | error e => rw [hb] at hn; cases hn
  | ok a =>
   obtain ⟨b,q2⟩ := a
   rw [hb] at hn
   injection hn with hn; injection hn with h4 h5
   have h6 := (rawR_ok hb).2.2.2.2
   rw [Int.toNat_natCast] at h6
   have h7 := beF_lt b b.size
   rw [h6] at h7 h4
   rw [h3,← h4]
   omega
end
theorem ext_mid (x m y : ByteArray) : (x ++ m ++ y).extract x.size (x.size + m.size) = m := by
 obtain ⟨x⟩ := x
 obtain ⟨m⟩ := m
 obtain ⟨y⟩ := y
 apply ByteArray.ext
 simp only [ByteArray.data_extract,ByteArray.data_append,ByteArray.size]
 rw [Array.extract_append,Array.extract_append]
 simp
theorem raw_mid (x m y : ByteArray) : rawR (x ++ m ++ y) x.size (m.size : Int) = .ok (m,x.size + m.size) := by
 unfold rawR
 rw [if_neg (by omega),Int.toNat_natCast,if_neg (by simp only [size_app]; omega),ext_mid]
theorem bt_strL {l : List Nat} {i : Nat} (h : i < l.length) (hl : l[i] < 256) : bt (str l) i = l[i] := by
 have := bt_app (s := emp) h hl
 rw [app_emp'] at this; exact this
theorem beF_one {a : Nat} (h : a < 256) : beF (str [a]) 1 = a := by
 simp only [beF,bt_strL (l := [a]) (i := 0) (by simp) h]
 simp
theorem beF_two {a b : Nat} (ha : a < 256) (hb : b < 256) : beF (str [a,b]) 2 = a * 256 + b := by
 simp only [beF,bt_strL (l := [a,b]) (i := 0) (by simp) ha,bt_strL (l := [a,b]) (i := 1) (by simp) hb]
 simp
theorem beF_four {a b c d : Nat} (ha : a < 256) (hb : b < 256) (hc : c < 256) (hd : d < 256) : beF (str [a,b,c,d]) 4 = ((a * 256 + b) * 256 + c) * 256 + d := by
 simp only [beF,bt_strL (l := [a,b,c,d]) (i := 0) (by simp) ha,bt_strL (l := [a,b,c,d]) (i := 1) (by simp) hb,bt_strL (l := [a,b,c,d]) (i := 2) (by simp) hc,bt_strL (l := [a,b,c,d]) (i := 3) (by simp) hd]
 simp
theorem numB_k {n k : Nat} (hk : k = 1 ∨ k = 2 ∨ k = 4) : (numB n k).size = k := by
 rcases hk with rfl | rfl | rfl <;> simp [numB,str_size]
theorem beF_numB {n k : Nat} (hk : k = 1 ∨ k = 2 ∨ k = 4) (hn : n < 2 ^ (8 * k)) : beF (numB n k) k = n := by
 rcases hk with rfl | rfl | rfl
 ·show beF (str [n % 256]) 1 = n
  rw [beF_one (by omega)]
  have : n < 256 := hn
  omega
 ·show beF (str [n / 256 % 256,n % 256]) 2 = n
  rw [beF_two (by omega) (by omega)]
  have : n < 65536 := hn
  omega
 ·show beF (str [n / 16777216 % 256,n / 65536 % 256,n / 256 % 256,n % 256]) 4 = n
  rw [beF_four (by omega) (by omega) (by omega) (by omega)]
  have : n < 4294967296 := hn
  omega
theorem num_mid (x y : ByteArray) {n k : Nat} (hk : k = 1 ∨ k = 2 ∨ k = 4) (hn : n < 2 ^ (8 * k)) : numR (x ++ numB n k ++ y) x.size k = .ok (n,x.size + k) := by
 have h := raw_mid x (numB n k) y
 rw [numB_k hk] at h
 unfold numR
 rw [h]
 simp only [numB_k hk,beF_numB hk hn]
theorem bin_mid (x s y : ByteArray) (hs : s.size ≤ 65535) : binR (x ++ (numB s.size 2 ++ s) ++ y) x.size = .ok (s,x.size + (numB s.size 2 ++ s).size) := by
 have h1 := num_mid x (s ++ y) (n := s.size) (k := 2) (by omega) (by omega)
 have h2 := raw_mid (x ++ numB s.size 2) s y
 have e1 : x ++ (numB s.size 2 ++ s) ++ y = x ++ numB s.size 2 ++ (s ++ y) := by simp only [app_assoc]
 have e2 : x ++ (numB s.size 2 ++ s) ++ y = x ++ numB s.size 2 ++ s ++ y := by simp only [app_assoc]
 unfold binR
 rw [e1,h1]
 simp only
 rw [← e1,e2]
 rw [size_app,numB_k (by omega)] at h2
 rw [h2]
 simp only [size_app,numB_k (show (2 : Nat) = 1 ∨ (2 : Nat) = 2 ∨ (2 : Nat) = 4 by omega),Nat.add_assoc]
def DG {α : Type} (enc : α → List Value) (sz : Nat) (σ : AHeap) (v : Value) (l : List α) (fp : List Nat) : Prop :=
 (l = [] ∧ v = .slice none 0 0 ∧ fp = []) ∨ ∃ m,v = dsl m sz l.length (l.flatMap enc) ∧ ((m = 1 ∧ fp = []) ∨ ∃ t,m = t + 2 ∧ σ.get t = .cells [] true sz ∧ fp = [t])
theorem Kept.none {σ σ' : AHeap} {fp fp' : List Nat} (h : Kept σ fp σ' fp') : Kept σ fp σ' [] := ⟨h.get,fun _ h => by cases h⟩
theorem Kept.wid {σ σ' : AHeap} {fp fp' gp gp' : List Nat} (k : Kept σ fp σ' fp') (h1 : ∀ b ∈ fp,b ∈ gp) (h2 : ∀ b ∈ gp',b ∈ fp' ∨ b ∈ gp) : Kept σ gp σ' gp' where
 get b hb hn := k.get b hb fun h => hn (h1 b h)
 new b hb := by
  rcases h2 b hb with h | h
  ·rcases k.new b h with h | h
   ·exact .inl (h1 b h)
   ·exact .inr h
  ·exact .inl h
theorem Kept.tmp {σ : AHeap} {c : Nat} {o o' : AObj} (hc : σ.get c = .dead) : Kept σ [] ((σ.set c o).set c o') [] := ((Kept.new' hc).trans (Kept.set (by simp))).wid (fun _ h => h) fun _ h => .inr h
theorem Kept.le {σ σ' : AHeap} {fp : List Nat} (k : Kept σ [] σ' fp) : Le σ σ' := fun b hb => k.get b hb (by simp)
section
variable {α : Type} {enc : α → List Value} {sz : Nat} {σ σ' : AHeap} {v : Value} {l : List α} {fp : List Nat}
theorem DG.nil : DG enc sz σ (.slice none 0 0) ([] : List α) [] := .inl ⟨rfl,rfl,rfl⟩
theorem DG.kept {gp gp' : List Nat} (h : DG enc sz σ v l fp) (k : Kept σ gp σ' gp') (hd : ∀ b ∈ fp,b ∉ gp) : DG enc sz σ' v l fp := by
 rcases h with h | ⟨m,h1,h2⟩
 ·exact .inl h
 ·rcases h2 with h2 | ⟨t,h3,h4,h5⟩
  ·exact .inr ⟨m,h1,.inl h2⟩
  ·exact .inr ⟨m,h1,.inr ⟨t,h3,by rw [k.get t (by rw [h4]; simp) (hd t (by rw [h5]; simp))]; exact h4,h5⟩⟩
theorem DG.live (h : DG enc sz σ v l fp) : ∀ b ∈ fp,σ.get b ≠ .dead := by
 rcases h with ⟨_,_,rfl⟩ | ⟨m,_,⟨_,rfl⟩ | ⟨t,_,h4,rfl⟩⟩ <;> intro b hb
 ·cases hb
 ·cases hb
 ·obtain rfl := List.mem_singleton.1 hb; rw [h4]; simp
theorem DG.bare (h : DG enc sz σ v l fp) : DL enc sz (bare v) l := by
 rcases h with ⟨h1,rfl,_⟩ | ⟨m,rfl,_⟩
 ·exact .inl ⟨h1,rfl⟩
 ·exact .inr ⟨_,rfl⟩
theorem DG.dl (h : DG enc sz σ v l fp) : DL enc sz v l := by
 rcases h with ⟨h1,rfl,_⟩ | ⟨m,rfl,_⟩
 ·exact .inl ⟨h1,rfl⟩
 ·exact .inr ⟨_,rfl⟩
theorem bareL_app : ∀ (a b : List Value),bareL (a ++ b) = bareL a ++ bareL b
 | [],_ => rfl
 | v :: a,b => by show bare v :: bareL (a ++ b) = _; rw [bareL_app a b]; rfl
theorem bareL_flat (hb : ∀ a,bareL (enc a) = enc a) : ∀ l : List α,bareL (l.flatMap enc) = l.flatMap enc
 | [] => rfl
 | a :: l => by rw [List.flatMap_cons,bareL_app,hb,bareL_flat hb l]
theorem frzL_flat (hf : ∀ a,frzL E.ng E.nb (enc a) = true) : ∀ l : List α,frzL E.ng E.nb (l.flatMap enc) = true
 | [] => by simp [frzL]
 | a :: l => by rw [List.flatMap_cons]; exact AbsYtdiekikcnfjlnaaDoor.frzL_append (hf a) (frzL_flat hf l)
theorem oc_flat (ho : ∀ a,(enc a).all oneCell = true) (l : List α) : (l.flatMap enc).all oneCell = true := by
 rw [List.all_flatMap]
 rw [List.all_eq_true]
 intro a _
 exact ho a
theorem app_deep {K : Value → AHeap → Prop} {x : Value} {xs : List α} {t e u by_ a1 a2 : Nat} {z1 : Option (List ZV)} {q1 q2 : Bool} {k2 : TK} {zs : List ZV} {iu : TI}
  (ht : E.ty.get t = some ⟨.slice e,a1,a2,z1,q1⟩) (he : E.ty.get e = some ⟨k2,sz,by_,some zs,q2⟩) (hz : zs.length = sz) (hs0 : 0 < sz) (hby : 0 < by_) (hu : E.ty.get u = some iu) (hki : iu.k.isInt = false) (hdp : E.dp t = true)
  (hb : ∀ a,bareL (enc a) = enc a) (hf : ∀ a,frzL E.ng E.nb (enc a) = true) (ho : ∀ a,(enc a).all oneCell = true)
  (hv : DG enc sz σ v l fp) (hx : DL enc sz x xs) (hn : (l.length + xs.length) * by_ ≤ 140737488355328) (hq : ∀ σ' v' fp',Kept σ fp σ' fp' → DG enc sz σ' v' (l ++ xs) fp' → K v' σ') :
  afterOpS E B (some (.any fun b => aappend E (σ.resize b) [t,u] [v,x])) σ K := by
 intro b hb0
 have hbd : σ.get b = .dead := by
  rcases hg : σ.get b with _ | _ | _
  ·rfl
  ·exact absurd (hb0 b (by rw [hg]; simp)) (Nat.lt_irrefl _)
  ·exact absurd (hb0 b (by rw [hg]; simp)) (Nat.lt_irrefl _)
 have hz5 : azero E e = some (zs.map ZV.val) := by unfold azero; rw [he]; rfl
 have hsrc : srcCells (σ.resize b) sz x = some (xs.length,xs.flatMap enc) := by
  rcases hx with ⟨rfl,rfl⟩ | ⟨m,rfl⟩
  ·rfl
  ·simp only [dsl,srcCells,if_true]
 have hbare := bareL_flat hb xs
 have hfz := frzL_flat hf xs
 have hoc := oc_flat ho xs
 have c0 : (sz == 0 || by_ == 0 || (zs.map ZV.val).length != sz || iu.k.isInt) = false := by
  rw [List.length_map,hz,hki]
  have h1 : (sz == 0) = false := by simp; omega
  have h2 : (by_ == 0) = false := by simp; omega
  rw [h1,h2]; simp
 have c0' : (decide (sz = 0) || decide (by_ = 0) || (zs.map ZV.val).length != sz || iu.k.isInt) = false := by
  rw [List.length_map,hz,hki]
  have h1 : decide (sz = 0) = false := by simp; omega
  have h2 : decide (by_ = 0) = false := by simp; omega
  rw [h1,h2]; simp
 have hnew : ∀ τ : AHeap,τ.size = b → (∀ c,c ∉ fp → τ.get c = σ.get c) → Kept σ fp ((deepNew τ sz (l.length + xs.length) ((l ++ xs).flatMap enc)).2.resize σ.size) [b] ∧ DG enc sz ((deepNew τ sz (l.length + xs.length) ((l ++ xs).flatMap enc)).2.resize σ.size) (deepNew τ sz (l.length + xs.length) ((l ++ xs).flatMap enc)).1 (l ++ xs) [b] := by
  intro τ hτ hg
  subst hτ
  refine ⟨⟨fun c hc hn => ?_,fun c hc => ?_⟩,.inr ⟨τ.size + 2,by simp only [deepNew,List.length_append],.inr ⟨τ.size,rfl,AHeap.get_alloc_same _ _,rfl⟩⟩⟩
  ·show (τ.alloc _).get c = σ.get c
   rw [AHeap.get_alloc_ne _ _ (by rintro rfl; exact hc hbd)]
   exact hg c hn
  ·obtain rfl := List.mem_singleton.1 hc; exact .inr hbd
 rcases hv with ⟨rfl,rfl,rfl⟩ | ⟨m,rfl,hm⟩
 ·by_cases h0 : xs.length = 0
  ·refine ⟨.slice none 0 0,σ.resize b,?_,hq _ _ [] ⟨fun c _ _ => rfl,fun _ h => by cases h⟩ (.inl ⟨by rw [List.nil_append]; exact List.eq_nil_of_length_eq_zero h0,rfl,rfl⟩)⟩
   simp only [aappend,ht,hu,he,hz5,hsrc,c0,c0',h0,Bool.false_eq_true,if_false,if_true,decide_true]
   try simp
  ·obtain ⟨g1,g2⟩ := hnew (σ.resize b) rfl (fun c _ => rfl)
   refine ⟨_,_,?_,hq _ _ _ g1 g2⟩
   have c1 : xs.length * by_ ≤ 140737488355328 := by simpa using hn
   simp only [aappend,ht,hu,he,hz5,hsrc,c0,c0',h0,hoc,hbare,hfz,hdp,c1,Bool.false_eq_true,if_false,if_true,decide_true,Bool.and_self,List.nil_append,List.length_nil,Nat.zero_add]
 ·by_cases h0 : xs.length = 0
  ·refine ⟨_,σ.resize b,?_,hq _ (dsl m sz l.length (l.flatMap enc)) fp ⟨fun c _ _ => rfl,fun _ h => .inl h⟩ (.inr ⟨m,by rw [List.eq_nil_of_length_eq_zero h0,List.append_nil],hm⟩)⟩
   simp only [aappend,ht,hu,he,hz5,hsrc,c0,c0',h0,dsl,Bool.false_eq_true,if_false,if_true,decide_true]
  ·have c2 : (l.flatMap enc ++ xs.flatMap enc) = (l ++ xs).flatMap enc := by rw [List.flatMap_append]
   rcases hm with ⟨rfl,rfl⟩ | ⟨tk,rfl,hg,rfl⟩
   ·obtain ⟨g1,g2⟩ := hnew (σ.resize b) rfl (fun c _ => rfl)
    refine ⟨_,_,?_,hq _ _ _ g1 g2⟩
    simp only [aappend,ht,hu,he,hz5,hsrc,c0,c0',h0,dsl,hn,hoc,hbare,hfz,c2,Bool.false_eq_true,if_false,if_true,decide_true,Bool.and_self]
   ·obtain ⟨g1,g2⟩ := hnew ((σ.resize b).set tk .dead) rfl (fun c hc => by rw [AHeap.get_set_ne _ _ (by rintro rfl; exact hc (by simp))]; rfl)
    refine ⟨_,_,?_,hq _ _ _ g1 g2⟩
    simp only [aappend,ht,hu,he,hz5,hsrc,c0,c0',h0,dsl,hn,hoc,hbare,hfz,c2,get_resize,hg,Bool.false_eq_true,if_false,if_true,decide_true,Bool.and_self]
end
def resC (v : Option Value) (r : Option (List Value)) : Option (List Value) := match v,r with
 | some v,some r => some (v :: r)
 | _,_ => none
theorem res_cellc {E : Env} {H : AHeap} {n : Nat} {f : Nat → Value} {a t : Nat} {r : List ResultVar} : AbsYtdiekikcnfjlnaaDoor.results E (L n f) H (.cell a t :: r) = resC (aload E H t (if a < n then f a else undef)) (AbsYtdiekikcnfjlnaaDoor.results E (L n f) H r) := by
 have e : (L n f).getD a undef = if a < n then f a else undef := aev_tmp (t := a)
 simp only [AbsYtdiekikcnfjlnaaDoor.results,e]
 cases aload E H t (if a < n then f a else undef) <;> cases AbsYtdiekikcnfjlnaaDoor.results E (L n f) H r <;> rfl
theorem resC_some {v : Value} {r : List Value} : resC (some v) (some r) = some (v :: r) := rfl
def lastP (K : List Value → AHeap → Prop) : List (List Value × AHeap) → Prop
 | [] => False
 | [s] => K s.1 s.2
 | _ :: s :: l => lastP K (s :: l)
theorem lastP_cc {K : List Value → AHeap → Prop} {a b : List Value × AHeap} {l : List (List Value × AHeap)} : lastP K (a :: b :: l) = lastP K (b :: l) := rfl
theorem lastP_one {K : List Value → AHeap → Prop} {A : List Value} {H : AHeap} : lastP K [(A,H)] = K A H := rfl
theorem lastP_get {K : List Value → AHeap → Prop} : ∀ {l : List (List Value × AHeap)},lastP K l → ∃ A H,l.getLast? = some (A,H) ∧ K A H
 | [],h => h.elim
 | [(A,H)],h => ⟨A,H,rfl,h⟩
 | _ :: s :: l,h => by
  obtain ⟨A,H,h1,h2⟩ := lastP_get (l := s :: l) h
  exact ⟨A,H,by rw [List.getLast?_cons_cons]; exact h1,h2⟩
theorem drawS_l {ops : Array Oper} {Q : AExit → List Value → AHeap → Prop} {tr : List (List Value × AHeap)} {fl : List (Nat × Nat)} (hf : floatPairs ops = fl) (h1 : fl.all (floatS B ops tr) = true) (h2 : lastP (Q .normal) tr) : drawS B ops Q tr := by
 obtain ⟨A,H,h3,h4⟩ := lastP_get h2
 exact drawS_of hf ⟨h1,A,H,h3,h4⟩
theorem Kept.setD {σ σ' : AHeap} {fp fp' : List Nat} {c : Nat} {o : AObj} (k : Kept σ fp σ' fp') (hc : σ.get c = .dead) : Kept σ fp (σ'.set c o) fp' :=
 ⟨fun b hb hn => by rw [AHeap.get_set_ne _ _ (by rintro rfl; exact hb hc)]; exact k.get b hb hn,k.new⟩
theorem Kept.self {σ σ' : AHeap} {fp fp' : List Nat} (k : Kept σ fp σ' fp') : Kept σ fp σ' fp := ⟨k.get,fun _ h => .inl h⟩
theorem numR_le {s : ByteArray} {p k n q : Nat} (h : numR s p k = .ok (n,q)) : p ≤ q ∧ q ≤ s.size := by
 have := numR_ok h; omega
section
variable {p : Nat} {s : ByteArray}
theorem rawR_ok' {n : Int} {v : ByteArray} {q : Nat} (hn : 0 ≤ n) (h : rawR s p n = .ok (v,q)) : q = p + n.toNat ∧ q ≤ s.size ∧ v.size = n.toNat := by
 unfold rawR at h
 split at h
 ·cases h
 split at h
 ·cases h
 ·simp only [Except.ok.injEq,Prod.mk.injEq] at h
  obtain ⟨h1,h2⟩ := h
  subst h1
  rw [ByteArray.size_extract]
  omega
end
set_option maxHeartbeats 2000000
attribute [local irreducible] afterS afterOpS opSK OpsS TrS CodeS condS condW thenS thenQ guardS guardTS outS drawS trSK consS
def bndL : List (Int × Int) := [(1,8),(64,65536),(1,65535),(0,65535),(0,65536),(0,65536),(64,1048576),(0,16777216),(1,8),(0,65536),(0,65535),(0,4294967295),(0,4294967295)]
def cfgBad (i : Nat) : List Int → List (Int × Int) → Option Nat
 | x :: l,(a,b) :: m => if x < a ∨ b < x then some i else cfgBad (i + 1) l m
 | _,_ => none
def cfgC (l : List Int) : List Value := l.map (.int .i64)
def bndC (x : Int × Int × Int) : List Value := [.int .i64 x.1,.int .i64 x.2.1,.int .i64 x.2.2]
theorem cfgBad_at : ∀ {l : List Int} {m : List (Int × Int)} {k i : Nat} (h1 : i < l.length) (h2 : i < m.length),cfgBad (k + i) (l.drop i) (m.drop i) = if l[i] < (m[i]).1 ∨ (m[i]).2 < l[i] then some (k + i) else cfgBad (k + (i + 1)) (l.drop (i + 1)) (m.drop (i + 1)) := by
 intro l m k i h1 h2
 rw [List.drop_eq_getElem_cons h1,List.drop_eq_getElem_cons h2]
 rfl
section
variable {σ : AHeap} {Q : Value → AHeap → Prop}
theorem dpC : dp 23 = false := rfl
theorem DLb.len {v : Value} {l : List (Int × Int × Int)} (h : DL bndC 3 v l) (σ : AHeap) : abuiltin E σ .len [60] [v] = some (.int .i64 (l.length : Int),σ) := by
 rcases h with ⟨rfl,rfl⟩ | ⟨m,rfl⟩ <;> rfl
theorem DLb.at {v : Value} {l : List (Int × Int × Int)} (h : DL bndC 3 v l) {i : Nat} (hi : i < l.length) : aindexAddr E 60 v (.int .i64 (i : Int)) = some (dptr (bndC l[i] ++ (l.drop (i + 1)).flatMap bndC)) := by
 rcases h with ⟨rfl,rfl⟩ | ⟨m,rfl⟩
 ·simp at hi
 ·rw [ia_dsl hi,drop_flat (enc := bndC) (sz := 3) (fun a => rfl) hi]; rfl
def bnd3 (l : List Int) : List (Int × Int × Int) := l.zip bndL
theorem specBounds {l : List Int} (hl : l.length = 13) (h : ∀ v,DL bndC 3 v (bnd3 l) → Q v σ) : CallS E B 25 [.agg ⟨cfgC l⟩] σ Q := by
 match l,hl with
 | [x0,x1,x2,x3,x4,x5,x6,x7,x8,x9,x10,x11,x12],_ =>
  simp only [cfgC,List.map_cons,List.map_nil]
  refine call25 (by simp) ?_
  simp only [strip,bodyOf,Tryd.f25,getD_body,keepN,bareOp_mk,lessOp_mk,lapp_cons,lapp_nil,List.map_cons,List.map_nil,array_toList,↓reduceIte,Nat.reduceEqDiff,Bool.false_eq_true]
  simp (disch := first | assumption | simp) only [↓sbD,sbU,tyB,Nat.reduceMul,Nat.reduceSub,Int.reduceEq,Int.reduceLT,Int.reduceLE,Int.reduceNe,Nat.reduceBneDiff,Nat.reduceBEq,decide_false,gt_iff_lt,Bool.or_self,Bool.false_eq_true,Nat.mul_one,Nat.one_mul,Nat.zero_mul,↓reduceIte,Nat.reduceEqDiff,Nat.reduceLT,Nat.reduceAdd,Nat.reduceLeDiff,reduceCtorEq,goInt,pairs,isConst,TI.isAgg,splice,boxS,Edp,dpv,Nat.beq_eq,ZV.val,List.any_cons,List.any_nil,Bool.false_and,AS_new,dpC]
  intro b hb
  exact downS_le (Le.new hb) (h _ (.inr ⟨1,rfl⟩))
theorem zeBd : azero E 63 = some [.int .i64 0,.int .i64 0,.int .i64 0] := rfl
theorem specTCheck {l : List Int} (hl : l.length = 13) (hok : cfgBad 0 l bndL = none → Q .nilIface σ) (hbad : ∀ i : Nat,cfgBad 0 l bndL = some i → Q (fv 131 (i : Int) (sent 7)) σ) : CallS E B 11 [.agg ⟨cfgC l⟩] σ Q := by
 have hbl : bndL.length = 13 := rfl
 refine call11 (by simp) ?_
 simp only [strip,bodyOf,Tryd.f11,getD_body,keepN,bareOp_mk,lessOp_mk,lapp_cons,lapp_nil,List.map_cons,List.map_nil,array_toList,↓reduceIte,Nat.reduceEqDiff,Bool.false_eq_true]
 have hcc : ∃ x0 x1 x2 x3 x4 x5 x6 x7 x8 x9 x10 x11 x12 : Int,l = [x0,x1,x2,x3,x4,x5,x6,x7,x8,x9,x10,x11,x12] := by
  match l,hl with
  | [x0,x1,x2,x3,x4,x5,x6,x7,x8,x9,x10,x11,x12],_ => exact ⟨_,_,_,_,_,_,_,_,_,_,_,_,_,rfl⟩
 have hzc : cfgC l = cfgC l := rfl
 obtain ⟨x0,x1,x2,x3,x4,x5,x6,x7,x8,x9,x10,x11,x12,he⟩ := hcc
 have hcl : cfgC l = [.int .i64 x0,.int .i64 x1,.int .i64 x2,.int .i64 x3,.int .i64 x4,.int .i64 x5,.int .i64 x6,.int .i64 x7,.int .i64 x8,.int .i64 x9,.int .i64 x10,.int .i64 x11,.int .i64 x12] := by rw [he]; rfl
 rw [hcl]
 simp (disch := first | assumption | simp) only [↓sbD,sbU,tyB,Nat.reduceMul,Nat.reduceSub,Int.reduceEq,Int.reduceLT,Int.reduceLE,Int.reduceNe,Nat.reduceBneDiff,Nat.reduceBEq,decide_false,gt_iff_lt,Bool.or_self,Bool.false_eq_true,Nat.mul_one,Nat.one_mul,Nat.zero_mul,↓reduceIte,Nat.reduceEqDiff,Nat.reduceLT,Nat.reduceAdd,Nat.reduceLeDiff,reduceCtorEq,goInt,pairs,isConst,TI.isAgg,splice,boxS,Edp,dpv,Nat.beq_eq,ZV.val,List.any_cons,List.any_nil,Bool.false_and,AS_new,dpC]
 intro b hb
 rw [← hcl]
 refine specBounds hl fun v hv => ?_
 have hlen := DLb.len hv
 have hbz : (bnd3 l).length = 13 := by unfold bnd3; rw [List.length_zip,hl,hbl]; rfl
 have h13 : (((bnd3 l).length : Nat) : Int) = 13 := by rw [hbz]; rfl
 simp (disch := first | assumption | simp) only [↓sbD,sbU,tyB,Nat.reduceMul,Nat.reduceSub,Int.reduceEq,Int.reduceLT,Int.reduceLE,Int.reduceNe,Nat.reduceBneDiff,Nat.reduceBEq,decide_false,gt_iff_lt,Bool.or_self,Bool.false_eq_true,Nat.mul_one,Nat.one_mul,Nat.zero_mul,↓reduceIte,Nat.reduceEqDiff,Nat.reduceLT,Nat.reduceAdd,Nat.reduceLeDiff,reduceCtorEq,goInt,pairs,isConst,TI.isAgg,splice,boxS,Edp,dpv,Nat.beq_eq,ZV.val,List.any_cons,List.any_nil,Bool.false_and,hlen,h13]
 generalize hσ1 : AHeap.set σ b _ = σ1
 have hle : Le σ σ1 := by rw [← hσ1]; exact Le.new hb
 clear hσ1
 refine S_loop (fun m f σ' => σ' = σ1 ∧ ∃ i : Nat,m + i = 13 ∧ f 8 = .int .i64 i ∧ cfgBad (0 + i) (l.drop i) (bndL.drop i) = cfgBad 0 l bndL) 13 (Le.refl _) ⟨rfl,0,rfl,by simp (disch := first | assumption | simp) only [↓sbD,sbU,tyB,Nat.reduceMul,Nat.reduceSub,Int.reduceEq,Int.reduceLT,Int.reduceLE,Int.reduceNe,Nat.reduceBneDiff,Nat.reduceBEq,decide_false,gt_iff_lt,Bool.or_self,Bool.false_eq_true,Nat.mul_one,Nat.one_mul,Nat.zero_mul,↓reduceIte,Nat.reduceEqDiff,Nat.reduceLT,Nat.reduceAdd,Nat.reduceLeDiff,reduceCtorEq,goInt,pairs,isConst,TI.isAgg,splice,boxS,Edp,dpv,Nat.beq_eq,ZV.val,List.any_cons,List.any_nil,Bool.false_and]; rfl,rfl⟩ ?_
 rintro m f σ' ⟨rfl,i,hm,f8,hcb⟩ hf
 have f6 := hf 6 (by decide) (notMem_wr (by kernel_rfl))
 have f7 := hf 7 (by decide) (notMem_wr (by kernel_rfl))
 simp (disch := first | assumption | simp) only [↓sbD,sbU,tyB,Nat.reduceMul,Nat.reduceSub,Int.reduceEq,Int.reduceLT,Int.reduceLE,Int.reduceNe,Nat.reduceBneDiff,Nat.reduceBEq,decide_false,gt_iff_lt,Bool.or_self,Bool.false_eq_true,Nat.mul_one,Nat.one_mul,Nat.zero_mul,↓reduceIte,Nat.reduceEqDiff,Nat.reduceLT,Nat.reduceAdd,Nat.reduceLeDiff,reduceCtorEq,goInt,pairs,isConst,TI.isAgg,splice,boxS,Edp,dpv,Nat.beq_eq,ZV.val,List.any_cons,List.any_nil,Bool.false_and] at f6 f7
 clear hf
 by_cases hi : (i : Int) < 13
 ·have hi1 : i < l.length := by omega
  have hi2 : i < bndL.length := by omega
  have hi3 : i < (bnd3 l).length := by omega
  rw [cfgBad_at hi1 hi2] at hcb
  have hia := DLb.at hv hi3
  have hz : (bnd3 l)[i] = (l[i],bndL[i]) := List.getElem_zip
  rw [hz] at hia
  generalize l[i] = x at hia hcb
  generalize hbi : bndL[i] = ab at hia hcb
  obtain ⟨lo,hiB⟩ := ab
  have hw := wrap_suc (n := i) (by omega)
  have hac : bndC (x,lo,hiB) = [.int .i64 x,.int .i64 lo,.int .i64 hiB] := rfl
  simp only [Nat.zero_add] at hcb
  by_cases hx1 : x < lo
  ·rw [if_pos (.inl hx1)] at hcb
   simp (disch := first | assumption | simp) only [↓sbD,sbU,tyB,Nat.reduceMul,Nat.reduceSub,Int.reduceEq,Int.reduceLT,Int.reduceLE,Int.reduceNe,Nat.reduceBneDiff,Nat.reduceBEq,decide_false,gt_iff_lt,Bool.or_self,Bool.false_eq_true,Nat.mul_one,Nat.one_mul,Nat.zero_mul,↓reduceIte,Nat.reduceEqDiff,Nat.reduceLT,Nat.reduceAdd,Nat.reduceLeDiff,reduceCtorEq,goInt,pairs,isConst,TI.isAgg,splice,boxS,Edp,dpv,Nat.beq_eq,ZV.val,List.any_cons,List.any_nil,Bool.false_and,f6,f7,f8,hi,hia,hac,AS_new,zeBd,hx1,gk7]
   intro c hc
   refine specNew (n := 7) ⟨by omega,by omega⟩ ?_
   simp (disch := first | assumption | simp) only [↓sbD,sbU,tyB,Nat.reduceMul,Nat.reduceSub,Int.reduceEq,Int.reduceLT,Int.reduceLE,Int.reduceNe,Nat.reduceBneDiff,Nat.reduceBEq,decide_false,gt_iff_lt,Bool.or_self,Bool.false_eq_true,Nat.mul_one,Nat.one_mul,Nat.zero_mul,↓reduceIte,Nat.reduceEqDiff,Nat.reduceLT,Nat.reduceAdd,Nat.reduceLeDiff,reduceCtorEq,goInt,pairs,isConst,TI.isAgg,splice,boxS,Edp,dpv,Nat.beq_eq,ZV.val,List.any_cons,List.any_nil,Bool.false_and]
   exact downS_le (Le.trans hle (Le.new' (Le.new hc) hc)) (hbad i hcb.symm)
  by_cases hx2 : hiB < x
  ·rw [if_pos (.inr hx2)] at hcb
   simp (disch := first | assumption | simp) only [↓sbD,sbU,tyB,Nat.reduceMul,Nat.reduceSub,Int.reduceEq,Int.reduceLT,Int.reduceLE,Int.reduceNe,Nat.reduceBneDiff,Nat.reduceBEq,decide_false,gt_iff_lt,Bool.or_self,Bool.false_eq_true,Nat.mul_one,Nat.one_mul,Nat.zero_mul,↓reduceIte,Nat.reduceEqDiff,Nat.reduceLT,Nat.reduceAdd,Nat.reduceLeDiff,reduceCtorEq,goInt,pairs,isConst,TI.isAgg,splice,boxS,Edp,dpv,Nat.beq_eq,ZV.val,List.any_cons,List.any_nil,Bool.false_and,f6,f7,f8,hi,hia,hac,AS_new,zeBd,hx1,hx2,gk7]
   intro c hc
   refine specNew (n := 7) ⟨by omega,by omega⟩ ?_
   simp (disch := first | assumption | simp) only [↓sbD,sbU,tyB,Nat.reduceMul,Nat.reduceSub,Int.reduceEq,Int.reduceLT,Int.reduceLE,Int.reduceNe,Nat.reduceBneDiff,Nat.reduceBEq,decide_false,gt_iff_lt,Bool.or_self,Bool.false_eq_true,Nat.mul_one,Nat.one_mul,Nat.zero_mul,↓reduceIte,Nat.reduceEqDiff,Nat.reduceLT,Nat.reduceAdd,Nat.reduceLeDiff,reduceCtorEq,goInt,pairs,isConst,TI.isAgg,splice,boxS,Edp,dpv,Nat.beq_eq,ZV.val,List.any_cons,List.any_nil,Bool.false_and]
   exact downS_le (Le.trans hle (Le.new' (Le.new hc) hc)) (hbad i hcb.symm)
  ·rw [if_neg (by omega)] at hcb
   simp (disch := first | assumption | simp) only [↓sbD,sbU,tyB,Nat.reduceMul,Nat.reduceSub,Int.reduceEq,Int.reduceLT,Int.reduceLE,Int.reduceNe,Nat.reduceBneDiff,Nat.reduceBEq,decide_false,gt_iff_lt,Bool.or_self,Bool.false_eq_true,Nat.mul_one,Nat.one_mul,Nat.zero_mul,↓reduceIte,Nat.reduceEqDiff,Nat.reduceLT,Nat.reduceAdd,Nat.reduceLeDiff,reduceCtorEq,goInt,pairs,isConst,TI.isAgg,splice,boxS,Edp,dpv,Nat.beq_eq,ZV.val,List.any_cons,List.any_nil,Bool.false_and,f6,f7,f8,hi,hia,hac,AS_new,zeBd,hx1,hx2,hw]
   intro c hc
   exact ⟨_,m - 1,σ',rfl,by omega,Le.new' (Le.new hc) hc,rfl,i + 1,by omega,by simp (disch := first | assumption | simp) only [↓sbD,sbU,tyB,Nat.reduceMul,Nat.reduceSub,Int.reduceEq,Int.reduceLT,Int.reduceLE,Int.reduceNe,Nat.reduceBneDiff,Nat.reduceBEq,decide_false,gt_iff_lt,Bool.or_self,Bool.false_eq_true,Nat.mul_one,Nat.one_mul,Nat.zero_mul,↓reduceIte,Nat.reduceEqDiff,Nat.reduceLT,Nat.reduceAdd,Nat.reduceLeDiff,reduceCtorEq,goInt,pairs,isConst,TI.isAgg,splice,boxS,Edp,dpv,Nat.beq_eq,ZV.val,List.any_cons,List.any_nil,Bool.false_and],hcb⟩
 ·obtain rfl : i = 13 := by omega
  have hl0 : l.drop 13 = [] := List.drop_of_length_le (by omega)
  rw [hl0] at hcb
  simp (disch := first | assumption | simp) only [↓sbD,sbU,tyB,Nat.reduceMul,Nat.reduceSub,Int.reduceEq,Int.reduceLT,Int.reduceLE,Int.reduceNe,Nat.reduceBneDiff,Nat.reduceBEq,decide_false,gt_iff_lt,Bool.or_self,Bool.false_eq_true,Nat.mul_one,Nat.one_mul,Nat.zero_mul,↓reduceIte,Nat.reduceEqDiff,Nat.reduceLT,Nat.reduceAdd,Nat.reduceLeDiff,reduceCtorEq,goInt,pairs,isConst,TI.isAgg,splice,boxS,Edp,dpv,Nat.beq_eq,ZV.val,List.any_cons,List.any_nil,Bool.false_and,f6,f7,f8,hi]
  exact downS_le hle (hok hcb.symm)
end
structure Ev where
 k : Int
 c : Int
 b : ByteArray
 n : Int
deriving DecidableEq
def evC (e : Ev) : List Value := [.int .i64 e.k,.int .i64 e.c,.string e.b,.int .i64 e.n]
def numsR (s : ByteArray) (p : Nat) : Nat → List Nat → Rd (List Nat)
 | 0,acc => .ok (acc,p)
 | m + 1,acc => match numR s p 4 with
  | .error e => .error e
  | .ok (n,q) => numsR s q m (acc ++ [n])
abbrev Er := Nat × Nat × Nat
def castL (l : List Nat) : List Int := l.map fun n : Nat => (n : Int)
def cfgR (s : ByteArray) (p : Nat) : Except Er (List Int × Nat) := match numsR s p 13 [] with
 | .error (k,q) => .error (k,129,q)
 | .ok (l,q) => match cfgBad 0 (castL l) bndL with
  | some i => .error (7,131,i)
  | none => .ok (castL l,q)
def nameB : ByteArray := ⟨#[67,82,73,69,82]⟩
def headR (s : ByteArray) : Except Er (List Int × Nat × Nat) := match rawR s 0 5 with
 | .error (k,q) => .error (k,129,q)
 | .ok (v,q) => if v = nameB then match cfgR s q with
   | .error e => .error e
   | .ok (c,q) => match numR s q 2 with
    | .error (k,q') => .error (k,129,q')
    | .ok (n,q') => if 16384 < n then .error (4,149,q) else .ok (c,n,q')
  else .error (2,129,0)
def evR (s : ByteArray) (p : Nat) : Except Er (Ev × Nat) := match numR s p 1 with
 | .error (k,q) => .error (k,129,q)
 | .ok (kd,q1) => match numR s q1 1 with
  | .error (k,q) => .error (k,129,q)
  | .ok (cn,q2) => match numR s q2 4 with
   | .error (k,q) => .error (k,129,q)
   | .ok (n,q3) => match binR s q3 with
    | .error (k,q) => .error (k,129,q)
    | .ok (b,q4) => if 1 ≤ kd ∧ kd ≤ 7 then .ok (⟨kd,cn,b,n⟩,q4) else .error (2,129,p)
def evsR (s : ByteArray) : Nat → Nat → List Ev → Except Er (List Ev × Nat)
 | 0,p,acc => .ok (acc,p)
 | m + 1,p,acc => match evR s p with
  | .error e => .error e
  | .ok (e,q) => evsR s m q (acc ++ [e])
def takeR (s : ByteArray) : Except Er (List Int × List Ev) := match headR s with
 | .error e => .error e
 | .ok (c,n,q) => match evsR s n q [] with
  | .error e => .error e
  | .ok (l,q') => if q' < s.size then .error (2,129,q') else .ok (c,l)
section
variable {σ : AHeap} {Q : Value → AHeap → Prop} {r p : Nat} {s : ByteArray}
theorem iaArr {d : Nat} {n : Int} (h0 : 0 ≤ n) (h1 : n < 13) : aindexAddr E 83 (.pointer (some ⟨d,0,none⟩)) (.int .i64 n) = some (.pointer (some ⟨d,n.toNat,none⟩)) := by
 simp [aindexAddr,ty83,ty3,h0,h1]
end
end Go.Proofs.YtdiekikcnfjlnaaDoor.AbsA
