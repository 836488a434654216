/-
  Parts of a law's proof.
-/
import Derived.Test.YtjkhhdknplelcaaGreatDoorARpqbJ
import Derived.Test.YtjkhhdknplelcaaGreatDoorABxqbJ
import Derived.Test.YtjkhhdknplelcaaGreatDoorAApqbJ
namespace Go.Proofs.YtjkhhdknplelcaaGreatDoor.AbsB
open Go AbsYtjkhhdknplelcaaGreatDoor Abs
set_option maxRecDepth 100000
set_option maxHeartbeats 4000000
set_option linter.unusedSimpArgs false
set_option linter.unusedVariables false
attribute [local irreducible] DecK coAll numB
theorem coBack {p : Pk} {fb : Int × ByteArray} {r : Except E3 Pk} (h : EncK p (.ok fb)) (hf : fewPk p) (hd : DecK fb.1 fb.2 r) : r = .ok (coB p) := by
 obtain ⟨h0,s,b,y,h1,h2,rfl,h4⟩ := h.inv
 rw [DecK.det hd h4]
 have hq : p.will.has = true → ¬ (p.will.qos < 0 ∨ 3 < p.will.qos) := by
  intro hw hq
  unfold preK at h0
  rw [if_pos ⟨hw,hq⟩] at h0
  cases h0
 have hs : encP 1 p.props = .ok s.1 ∧ (p.will.has = true → encP 16 p.will.props = .ok s.2) ∧ s.2.size ≤ 700000 := by
  unfold propsK at h1
  split at h1
  ·cases h1
  ·rename_i a ha
   split at h1
   ·rename_i hw
    split at h1
    ·cases h1
    ·rename_i b hb
     simp only [Except.ok.injEq] at h1
     subst h1
     exact ⟨ha,fun _ => hb,by have := encP_size hf.wprops hb; simp only; omega⟩
   ·rename_i hw
    simp only [Except.ok.injEq] at h1
    subst h1
    exact ⟨ha,fun h => absurd h hw,Nat.zero_le _⟩
 have hz : s.1.size ≤ 700000 := by have := encP_size hf.props hs.1; omega
 obtain ⟨n,keep,mc,mt,mwp,mu,mp,e1,e2,e3,e4,e5,e6,e7,e8,rfl⟩ := actsK_cat hq h2
 obtain ⟨f1,f2,f3,f4,f5,f6⟩ := flags_at e1 hq
 have hw4 : n / 4 % 2 = 1 → p.will.has = true := fun h => by rw [← f5]; simpa using h
 have hu4 : n / 128 = 1 → p.hasU = true := fun h => by rw [← f3]; simpa using h
 have hp4 : n / 64 % 2 = 1 → p.hasP = true := fun h => by rw [← f4]; simpa using h
 have hv := decK_val (n := n) (keep := keep) (l := p.props) (m := p.will.props) (c1 := s.1) (c2 := s.2) (mc := mc) (mt := mt) (mwp := mwp) (mu := mu) (mp := mp) (cl := p.client) (t := p.will.topic) (wp := p.will.pay) (u := p.user) (pw := p.pass) e2 e4 hs.1 hz e5 (fun h => hs.2.1 (hw4 h)) hs.2.2 (fun h => (e6 (hw4 h)).1) (fun h => (e6 (hw4 h)).2) (fun h => e7 (hu4 h)) (fun h => e8 (hp4 h))
 have := DecK.det h4 hv
 split at this
 ·cases this
 ·rw [this]
  have hwl : (if n / 4 % 2 = 1 then coW n p.will.topic p.will.pay (p.will.props.map plainP) else wlz) = (if p.will.has = true then { p.will with props := p.will.props.map plainP } else wlz) := by
   by_cases hw : p.will.has = true
   ·have h4' : n / 4 % 2 = 1 := by rw [hw] at f5; simpa using f5
    rw [if_pos h4',if_pos hw]
    unfold coW
    rw [(f6 hw).1,(f6 hw).2,← hw]
   ·have h4' : ¬ n / 4 % 2 = 1 := fun h => hw (hw4 h)
    rw [if_neg h4',if_neg hw]
  unfold coP coB
  rw [f2,f3,f4,e3,hwl]
theorem headS_ok {s : ByteArray} {n p : Nat} (h : headS s = .ok (n,p)) : n < 256 ∧ p ≤ s.size ∧ ¬ flBad n := by
 unfold headS headK at h
 split at h
 ·cases h
 split at h
 ·cases h
 rcases g : u8S s (u8S s (textS s (.ok 0)).2).2 with ⟨m,st⟩
 rw [g] at h
 simp only at h
 cases st with
 | error e => obtain ⟨k,q⟩ := e; cases h
 | ok q =>
  simp only at h
  split at h
  ·cases h
  ·rename_i hb
   simp only [Except.ok.injEq,Prod.mk.injEq] at h
   obtain ⟨rfl,rfl⟩ := h
   exact ⟨(okS_u8 g).1,(okS_u8 g).2.1,hb⟩
theorem finK_ok {n : Nat} {s : ByteArray} {st : RSt} {g : ByteArray → ByteArray → Pk} {p : Pk} (h : finK n s st g = .ok p) : ∃ u pw mu mp,p = g u pw ∧ (n / 128 = 1 → textW u = .inl mu) ∧ (n / 64 % 2 = 1 → binW pw = .inl mp) ∧ (n / 128 ≠ 1 → u = emp) ∧ (n / 64 % 2 ≠ 1 → pw = emp) ∧ u.size ≤ s.size ∧ pw.size ≤ s.size ∧ mu.size ≤ s.size + 4 ∧ mp.size ≤ s.size + 4 ∧ ∃ q,st = .ok q := by
 unfold finK at h
 have he0 : emp.size = 0 := rfl
 rcases g1 : userS n s st with ⟨u,st1⟩
 rw [g1] at h
 simp only at h
 rcases g2 : passS n s st1 with ⟨pw,st2⟩
 rw [g2] at h
 simp only at h
 cases st2 with
 | error e => obtain ⟨k,q⟩ := e; cases h
 | ok q2 =>
  split at h
  ·cases h
  simp only [Except.ok.injEq] at h
  have hp : ∃ mp,(n / 64 % 2 = 1 → binW pw = .inl mp) ∧ (n / 64 % 2 ≠ 1 → pw = emp) ∧ pw.size ≤ s.size ∧ mp.size ≤ s.size + 4 ∧ ∃ q1,st1 = .ok q1 := by
   unfold passS at g2
   split at g2
   ·rename_i hc
    obtain ⟨w,z,_,e⟩ := okS_bin g2
    have := numB_size pw.size 2
    exact ⟨_,fun _ => w,fun h => absurd hc h,z,by rw [size_app]; omega,e⟩
   ·rename_i hc
    simp only [Prod.mk.injEq] at g2
    obtain ⟨rfl,rfl⟩ := g2
    exact ⟨emp,fun h => absurd h hc,fun _ => rfl,by omega,by omega,_,rfl⟩
  obtain ⟨mp,p1,p2,p3,p4,q1,rfl⟩ := hp
  have hu : ∃ mu,(n / 128 = 1 → textW u = .inl mu) ∧ (n / 128 ≠ 1 → u = emp) ∧ u.size ≤ s.size ∧ mu.size ≤ s.size + 4 ∧ ∃ q,st = .ok q := by
   unfold userS at g1
   split at g1
   ·rename_i hc
    obtain ⟨w,z,_,e⟩ := okS_text g1
    have := numB_size u.size 2
    exact ⟨_,fun _ => w,fun h => absurd hc h,z,by rw [size_app]; omega,e⟩
   ·rename_i hc
    simp only [Prod.mk.injEq] at g1
    obtain ⟨rfl,rfl⟩ := g1
    exact ⟨emp,fun h => absurd h hc,fun _ => rfl,by omega,by omega,_,rfl⟩
  obtain ⟨mu,u1,u2,u3,u4,q,rfl⟩ := hu
  exact ⟨u,pw,mu,mp,h.symm,u1,p1,u2,p2,u3,p3,u4,p4,q,rfl⟩
theorem opt_self {c : Prop} [Decidable c] {u : ByteArray} (h : ¬ c → u = emp) : opt (decide c) u = u := by
 unfold opt
 by_cases hc : c
 ·simp [hc]
 ·simp [hc,h hc]
theorem opt_le (b : Bool) (m : ByteArray) : (opt b m).size ≤ m.size := by
 have he0 : emp.size = 0 := rfl
 unfold opt
 split <;> omega
theorem willK_ok {n : Nat} {s : ByteArray} {st : RSt} {g : Wl → ByteArray → ByteArray → Pk} {p : Pk} (hs : s.size ≤ 2048) (hst : okS s st) (h : willK n s st g (.ok p)) : ∃ (t wp mt mwp c u pw mu mp : ByteArray) (m : List Pr),
  p = g (if n / 4 % 2 = 1 then coW n t wp m else wlz) u pw ∧ (n / 4 % 2 = 1 → encP 16 m = .ok c ∧ textW t = .inl mt ∧ binW wp = .inl mwp) ∧ c.size ≤ 700000 ∧ m.map plainP = m ∧ smallP m ∧
  (n / 128 = 1 → textW u = .inl mu) ∧ (n / 64 % 2 = 1 → binW pw = .inl mp) ∧ (n / 128 ≠ 1 → u = emp) ∧ (n / 64 % 2 ≠ 1 → pw = emp) ∧ t.size ≤ s.size ∧ wp.size ≤ s.size ∧ u.size ≤ s.size ∧ pw.size ≤ s.size ∧ mt.size ≤ s.size + 4 ∧ mwp.size ≤ s.size + 4 ∧ mu.size ≤ s.size + 4 ∧ mp.size ≤ s.size + 4 ∧ ∃ q,st = .ok q := by
 have he0 : emp.size = 0 := rfl
 unfold willK at h
 split at h
 ·rename_i hc
  obtain ⟨y,hy,h2⟩ := h
  cases y with
  | error e => cases h2
  | ok mq =>
   obtain ⟨m,q⟩ := mq
   simp only at h2
   cases st with
   | error e => obtain ⟨k,q⟩ := e; cases hy
   | ok p0 =>
    obtain ⟨c,w1,w2,w3,w4⟩ := ReadPS_w hs (hst p0 rfl) hy
    obtain ⟨u,pw,mu,mp,f1,f2,f3,f4,f5,f6,f7,f8,f9,q2,hq2⟩ := finK_ok h2.symm
    rcases g1 : textS s (.ok q) with ⟨t,st1⟩
    rw [g1] at f1 hq2
    simp only at f1 hq2
    rcases g2 : binS s st1 with ⟨wp,st2⟩
    rw [g2] at f1 hq2
    simp only at f1 hq2
    subst hq2
    obtain ⟨b1,b2,b3,q1,rfl⟩ := okS_bin g2
    obtain ⟨t1,t2,t3,_⟩ := okS_text g1
    have z1 := numB_size wp.size 2
    have z2 := numB_size t.size 2
    exact ⟨t,wp,_,_,c,u,pw,mu,mp,m,by rw [if_pos hc]; exact f1,fun _ => ⟨w1,t1,b1⟩,w2,w3,w4,f2,f3,f4,f5,t2,b2,f6,f7,by rw [size_app]; omega,by rw [size_app]; omega,f8,f9,_,rfl⟩
 ·rename_i hc
  obtain ⟨u,pw,mu,mp,f1,f2,f3,f4,f5,f6,f7,f8,f9,hq⟩ := finK_ok h.symm
  exact ⟨emp,emp,emp,emp,emp,u,pw,mu,mp,[],by rw [if_neg hc]; exact f1,fun h => absurd h hc,Nat.zero_le _,rfl,small_nil,f2,f3,f4,f5,by omega,by omega,f6,f7,by omega,by omega,f8,f9,hq⟩
theorem w15 : actW ⟨1,5,emp⟩ = .inl (numB 5 1) := by decide +kernel
theorem coAgain {f : Int} {s : ByteArray} {p : Pk} (h : DecK f s (.ok p)) (hs : s.size ≤ 2048) : ∃ b,EncK p (.ok (f,b)) ∧ DecK f b (.ok p) ∧ bigPk p ∧ b.size ≤ 1500000 ∧ ∃ n keep l cl w u pw,p = coP n keep l cl w u pw := by
 unfold DecK at h
 split at h
 ·cases h
 rename_i hf
 obtain rfl : f = 16 := by omega
 cases hh : headS s with
 | error e => rw [hh] at h; cases h
 | ok a =>
  obtain ⟨n,p0⟩ := a
  obtain ⟨hn,hp0,hnb⟩ := headS_ok hh
  rw [hh] at h
  obtain ⟨x,hx,h2⟩ := h
  cases x with
  | error e => cases h2
  | ok lq =>
   obtain ⟨l,q⟩ := lq
   simp only at h2
   rcases g1 : u16S s (.ok p0) with ⟨keep,st1⟩
   rw [g1] at hx h2
   simp only at hx h2
   rcases g2 : textS s (.ok q) with ⟨cl,st2⟩
   rw [g2] at h2
   simp only at h2
   cases st1 with
   | error e => obtain ⟨k,q⟩ := e; cases hx
   | ok p1 =>
    obtain ⟨hk,hp1,_⟩ := okS_u16 g1
    obtain ⟨c1,e1,e2,e3,e4⟩ := ReadPS_w hs hp1 hx
    have hst2 : okS s st2 := by
     intro p hp
     subst hp
     exact (okS_text g2).2.2.1
    obtain ⟨t,wp,mt,mwp,c2,u,pw,mu,mp,m,v1,v2,v3,v4,v5,v6,v7,v8,v9,y1,y2,y3,y4,y5,y6,y7,y8,q2,rfl⟩ := willK_ok hs hst2 h2
    obtain ⟨t1,t2,t3,_⟩ := okS_text g2
    have hv := decK_val (n := n) (keep := keep) (l := l) (c1 := c1) (c2 := c2) (mc := numB cl.size 2 ++ cl) (mt := mt) (mwp := mwp) (cl := cl) (t := t) (wp := wp) (u := u) (pw := pw) (mu := mu) (mp := mp) (m := m) hn hk e1 e2 t1 (fun h => (v2 h).1) v3 (fun h => (v2 h).2.1) (fun h => (v2 h).2.2) v6 v7
    rw [if_neg hnb,e3,v4,opt_self v8,opt_self v9,← v1] at hv
    have he0 : emp.size = 0 := rfl
    have hfl : flagsI p = n := by
     rw [v1]
     refine flags_of hn hnb rfl rfl rfl ?_ ?_
     ·show (if n / 4 % 2 = 1 then coW n t wp m else wlz).has = _
      split
      ·rename_i h; simp [coW,h]
      ·rename_i h; simp [wlz,h]
     ·intro h
      show (if n / 4 % 2 = 1 then coW n t wp m else wlz).qos = _ ∧ (if n / 4 % 2 = 1 then coW n t wp m else wlz).ret = _
      rw [if_pos h]
      exact ⟨rfl,rfl⟩
    have hwill : p.will = if n / 4 % 2 = 1 then coW n t wp m else wlz := by rw [v1]; rfl
    have hhas : p.will.has = decide (n / 4 % 2 = 1) := by
     rw [hwill]
     split
     ·rename_i h; simp [coW,h]
     ·rename_i h; simp [wlz,h]
    have f1 : p.props = l := by rw [v1]; rfl
    have f2 : p.client = cl := by rw [v1]; rfl
    have f3 : p.keep = keep := by rw [v1]; rfl
    have f4 : p.hasU = decide (n / 128 = 1) := by rw [v1]; rfl
    have f5 : p.hasP = decide (n / 64 % 2 = 1) := by rw [v1]; rfl
    have f6 : p.user = u := by rw [v1]; rfl
    have f7 : p.pass = pw := by rw [v1]; rfl
    have hpre : preK p = none := by
     unfold preK
     rw [if_neg]
     rintro ⟨h1,h2⟩
     rw [hhas] at h1
     simp only [decide_eq_true_eq] at h1
     rw [hwill,if_pos h1] at h2
     simp only [coW] at h2
     omega
    have hprops : propsK p = .ok (c1,opt (decide (n / 4 % 2 = 1)) c2) := by
     unfold propsK
     rw [f1,e1]
     simp only
     rw [hhas]
     by_cases h4 : n / 4 % 2 = 1
     ·rw [hwill,if_pos h4]
      simp only [coW,h4,opt,decide_true,if_true,(v2 h4).1]
     ·simp only [h4,opt,decide_false,Bool.false_eq_true,if_false]
    have hcat : catW (actsK p (c1,opt (decide (n / 4 % 2 = 1)) c2)) = some (coAll n keep c1 (numB cl.size 2 ++ cl) c2 mt mwp mu mp) := by
     unfold actsK coAll
     simp only [List.cons_append,List.nil_append]
     rw [hfl,f3,f2,hhas,f4,f5,f6,f7]
     refine catW_1 (w6 mqtt_w) (catW_1 w15 (catW_1 (w1 hn) (catW_1 (w2 hk) (catW_1 w8 (catW_1 (w6 t1) ?_)))))
     rw [catW_nil (if decide (n / 64 % 2 = 1) = true then [(⟨7,0,pw⟩ : Act)] else [])]
     have hw1 : catW (if decide (n / 4 % 2 = 1) = true then [⟨8,0,opt (decide (n / 4 % 2 = 1)) c2⟩,⟨6,0,p.will.topic⟩,⟨7,0,p.will.pay⟩] else []) = some (willB n c2 mt mwp) := by
      unfold willB opt
      by_cases h4 : n / 4 % 2 = 1
      ·rw [hwill,if_pos h4]
       simp only [coW,h4,decide_true,if_true]
       have : catW [⟨8,0,c2⟩,⟨6,0,t⟩,⟨7,0,wp⟩] = some (c2 ++ (mt ++ (mwp ++ emp))) := catW_1 w8 (catW_1 (w6 (v2 h4).2.1) (catW_1 (w7 (v2 h4).2.2) rfl))
       rw [app_emp'] at this
       exact this
      ·simp only [h4,decide_false,Bool.false_eq_true,if_false]
       rfl
     refine catW_app hw1 (catW_optI (fun h => ?_) (catW_optI (fun h => ?_) rfl))
     ·rw [show catW [(⟨6,0,u⟩ : Act)] = some (mu ++ emp) from catW_1 (w6 (v6 (by simpa using h))) rfl,app_emp']
     ·rw [show catW [(⟨7,0,pw⟩ : Act)] = some (mp ++ emp) from catW_1 (w7 (v7 (by simpa using h))) rfl,app_emp']
    refine ⟨coAll n keep c1 (numB cl.size 2 ++ cl) c2 mt mwp mu mp,?_,hv,?_,?_,n,keep,l,cl,_,u,pw,v1⟩
    ·unfold EncK
     rw [hpre,hprops]
     exact EncG.mk hcat hv
    ·refine ⟨by rw [f1]; exact e4,?_,by rw [f2]; omega,?_,?_,by rw [f6]; omega,by rw [f7]; omega,?_,?_⟩
     ·rw [hwill]; split
      ·exact v5
      ·exact small_nil
     ·rw [hwill]; split
      ·simp only [coW]; omega
      ·simp only [wlz]; omega
     ·rw [hwill]; split
      ·simp only [coW]; omega
      ·simp only [wlz]; omega
     ·rw [v1]; simp only [coP,pkz]; omega
     ·rw [v1]; simp only [coP,pkz]; omega
    ·have z1 := numB_size 4 2
     have z2 := numB_size 5 1
     have z3 := numB_size n 1
     have z4 := numB_size keep 2
     have z5 := numB_size cl.size 2
     have z6 := opt_le (decide (n / 4 % 2 = 1)) (c2 ++ (mt ++ mwp))
     have z7 := opt_le (decide (n / 128 = 1)) mu
     have z8 := opt_le (decide (n / 64 % 2 = 1)) mp
     have z9 : mqtt.size = 4 := rfl
     unfold coAll willB
     simp only [size_app] at z6 ⊢
     omega
end Go.Proofs.YtjkhhdknplelcaaGreatDoor.AbsB
namespace Go.Proofs.YtjkhhdknplelcaaGreatDoor.AbsB
open Go AbsYtjkhhdknplelcaaGreatDoor Abs
set_option maxRecDepth 100000
set_option maxHeartbeats 8000000
set_option linter.unusedSimpArgs false
set_option linter.unusedVariables false
attribute [local irreducible] afterS afterOpS opSK OpsS TrS CodeS condS condW thenS thenQ guardS guardTS outS drawS trSK consS
section
variable {σ : AHeap} {Q : Value → AHeap → Prop} {s : ByteArray}
theorem specFlag {b : Bool} {n : Int} (h : Q (.int .i64 (bI b n)) σ) : CallS E B 116 [.bool b,.int .i64 n] σ Q := by
 unfold bI at h
 refine call116 (by simp) ?_
 simp only [strip,bodyOf,Tryz.f116,getD_body,keepN,bareOp_mk,List.map_cons,List.map_nil,↓reduceIte,Bool.false_eq_true]
 cases b with
 | true =>
  simp only [↓sbD,sbU,↓reduceIte,Nat.reduceEqDiff,Nat.reduceLT,reduceCtorEq]
  exact downS_here h
 | false =>
  simp only [↓sbD,sbU,↓reduceIte,Nat.reduceLT,reduceCtorEq]
  exact downS_here h
theorem or_flags {p : Pk} (hq : p.will.has = true → ¬ (p.will.qos < 0 ∨ 3 < p.will.qos)) : ∃ F0 F1 F2 F3 : Int,aint .or .i64 (bI p.clean 2) (bI p.hasU 128) = some (.int .i64 F0) ∧ aint .or .i64 F0 (bI p.hasP 64) = some (.int .i64 F1) ∧
  (p.will.has = true → IntKind.i64.wrap (p.will.qos * 8) = p.will.qos * 8 ∧ aint .or .i64 4 (p.will.qos * 8) = some (.int .i64 F2) ∧ aint .or .i64 F2 (bI p.will.ret 32) = some (.int .i64 F3) ∧ aint .or .i64 F1 F3 = some (.int .i64 (flagsI p))) ∧ (p.will.has = false → flagsI p = F1) := by
 refine ⟨bI p.clean 2 + bI p.hasU 128,bI p.clean 2 + bI p.hasU 128 + bI p.hasP 64,4 + 8 * p.will.qos,4 + 8 * p.will.qos + bI p.will.ret 32,?_,?_,fun hw => ?_,fun hw => ?_⟩
 ·cases p.clean <;> cases p.hasU <;> kernel_rfl
 ·cases p.clean <;> cases p.hasU <;> cases p.hasP <;> kernel_rfl
 ·have hq' := hq hw
  unfold flagsI
  rw [hw]
  generalize p.will.qos = q at *
  refine ⟨by rw [wrap64 ⟨by omega,by omega⟩],?_,?_,?_⟩
  ·obtain rfl | rfl | rfl | rfl : q = 0 ∨ q = 1 ∨ q = 2 ∨ q = 3 := by omega
   all_goals kernel_rfl
  ·obtain rfl | rfl | rfl | rfl : q = 0 ∨ q = 1 ∨ q = 2 ∨ q = 3 := by omega
   all_goals (cases p.will.ret <;> kernel_rfl)
  ·obtain rfl | rfl | rfl | rfl : q = 0 ∨ q = 1 ∨ q = 2 ∨ q = 3 := by omega
   all_goals (cases p.clean <;> cases p.hasU <;> cases p.hasP <;> cases p.will.ret <;> kernel_rfl)
 ·unfold flagsI
  rw [hw]
  simp
theorem specFlags {p : Pk} {v : Value} (hp : PkV p v) (hq : p.will.has = true → ¬ (p.will.qos < 0 ∨ 3 < p.will.qos)) (h : Q (.int .i64 (flagsI p)) σ) : CallS E B 67 [v] σ Q := by
 obtain ⟨vp,vw,vs,vf,vc,d1,d2,d3,d4,d5,rfl⟩ := hp
 obtain ⟨up,uw,us,uf,uc,d1,d2,d3,d4,d5,-,hbx⟩ := boxPk d1 d2 d3 d4 d5
 obtain ⟨F0,F1,F2,F3,o1,o2,o3,o4⟩ := or_flags hq
 simp only [pkC] at hbx ⊢
 have hc : p.will.has = false ∨ p.will.has = true := by cases p.will.has <;> simp
 rcases hc with hw | hw <;> simp only [hw] at hbx ⊢
 ·rw [← o4 hw] at o2
  refine call67 (by simp) ?_
  simp only [strip,bodyOf,Tryz.f67,getD_body,keepN,bareOp_mk,lessOp_mk,List.map_cons,List.map_nil,↓reduceIte,Nat.reduceEqDiff,Bool.false_eq_true]
  simp (disch := first | assumption | simp) only [↓sbD,sbU,tyB,↓reduceIte,Nat.reduceEqDiff,Nat.reduceLT,reduceCtorEq,hbx]
  refine specFlag ?_
  simp (disch := first | assumption | simp) only [↓sbD,sbU,tyB,↓reduceIte,Nat.reduceEqDiff,Nat.reduceLT,reduceCtorEq]
  refine specFlag ?_
  simp (disch := first | assumption | simp) only [↓sbD,sbU,tyB,Bool.or_self,↓reduceIte,Nat.reduceEqDiff,Nat.reduceLT,reduceCtorEq,isConst,o1]
  refine specFlag ?_
  simp (disch := first | assumption | simp) only [↓sbD,sbU,Bool.or_self,↓reduceIte,Nat.reduceEqDiff,Nat.reduceLT,isConst,o2]
  refine drawS_l (fl := [(4,2),(8,2),(8,5)]) (by kernel_rfl) ?_ ?_
  rotate_left; simp only [lastP_cc,lastP_one]; rotate_left
  ·simp only [List.all_cons,List.all_nil,floatS,List.getElem?_cons_succ,List.getElem?_cons_zero,List.getElem?_toArray,Region.wanted,Bool.not_true,Bool.or_true,reads,looksWeak,aev_tmp,upd_at,↓reduceIte,Nat.reduceLT,Nat.reduceAdd,blkOf,oeq_refl,Bool.and_true,Bool.and_self,Bool.false_eq_true]
   try rfl
  simp (disch := first | assumption | simp) only [↓sbD,sbU,tyB,↓reduceIte,Nat.reduceEqDiff,Nat.reduceLT,reduceCtorEq]
  exact downS_here h
 ·obtain ⟨e1,e2,e3,e4⟩ := o3 hw
  refine call67 (by simp) ?_
  simp only [strip,bodyOf,Tryz.f67,getD_body,keepN,bareOp_mk,lessOp_mk,List.map_cons,List.map_nil,↓reduceIte,Nat.reduceEqDiff,Bool.false_eq_true]
  simp (disch := first | assumption | simp) only [↓sbD,sbU,tyB,↓reduceIte,Nat.reduceEqDiff,Nat.reduceLT,reduceCtorEq,hbx]
  refine specFlag ?_
  simp (disch := first | assumption | simp) only [↓sbD,sbU,tyB,↓reduceIte,Nat.reduceEqDiff,Nat.reduceLT,reduceCtorEq]
  refine specFlag ?_
  simp (disch := first | assumption | simp) only [↓sbD,sbU,tyB,Bool.or_self,↓reduceIte,Nat.reduceEqDiff,Nat.reduceLT,reduceCtorEq,isConst,o1]
  refine specFlag ?_
  simp (disch := first | assumption | simp) only [↓sbD,sbU,Bool.or_self,↓reduceIte,Nat.reduceEqDiff,Nat.reduceLT,isConst,o2]
  refine drawS_l (fl := [(4,2),(8,2),(8,5)]) (by kernel_rfl) ?_ ?_
  rotate_left; simp only [lastP_cc,lastP_one]; rotate_left
  ·simp only [List.all_cons,List.all_nil,floatS,List.getElem?_cons_succ,List.getElem?_cons_zero,List.getElem?_toArray,Region.wanted,Bool.not_true,Bool.or_true,reads,looksWeak,aev_tmp,upd_at,↓reduceIte,Nat.reduceLT,Nat.reduceAdd,blkOf,oeq_refl,Bool.and_true,Bool.and_self,Bool.false_eq_true]
   try rfl
  simp (disch := first | assumption | simp) only [↓sbD,sbU,tyB,↓reduceIte,Nat.reduceEqDiff,Nat.reduceLT,reduceCtorEq,isConst,e1,e2]
  refine specFlag ?_
  simp (disch := first | assumption | simp) only [↓sbD,sbU,Bool.or_self,↓reduceIte,Nat.reduceEqDiff,Nat.reduceLT,isConst,e3,e4]
  refine drawS_l (fl := [(3,9)]) (by kernel_rfl) ?_ ?_
  rotate_left; simp only [lastP_cc,lastP_one]; rotate_left
  ·simp only [List.all_cons,List.all_nil,floatS,List.getElem?_cons_succ,List.getElem?_cons_zero,List.getElem?_toArray,Region.wanted,Bool.not_true,Bool.or_true,reads,looksWeak,aev_tmp,upd_at,↓reduceIte,Nat.reduceLT,Nat.reduceAdd,blkOf,oeq_refl,Bool.and_true,Bool.and_self,Bool.false_eq_true]
   try rfl
  simp (disch := first | assumption | simp) only [↓sbD,sbU,↓reduceIte,Nat.reduceLT]
  exact downS_here h
theorem specLast {w : Nat} {fp : List Nat} {r : ByteArray ⊕ (Nat × Nat)} {l : Wl} {vw : Value} {c : ByteArray} {n : Nat} (hw : WRun σ w r fp) (d : DL propC 4 vw l.props) (hz : leW r n) (hn : n ≤ 800000) (hc : c.size ≤ 700000) (ht : l.topic.size ≤ 2100) (hpy : l.pay.size ≤ 2100)
  (h : ∀ σ' fp',Kept σ fp σ' fp' → WRun σ' w (stepW r (if l.has then [⟨8,0,c⟩,⟨6,0,l.topic⟩,⟨7,0,l.pay⟩] else [])) fp' → leW (stepW r (if l.has then [⟨8,0,c⟩,⟨6,0,l.topic⟩,⟨7,0,l.pay⟩] else [])) (n + c.size + 5000) → Q unit σ') :
  CallS E B 68 [.pointer (some ⟨w,0,none⟩),.agg ⟨wlC l vw⟩,.string c] σ Q := by
 obtain ⟨uw,d',hbx⟩ := boxWl d
 simp only [wlC] at hbx ⊢
 have hc0 : l.has = false ∨ l.has = true := by cases l.has <;> simp
 rcases hc0 with hh | hh <;> simp only [hh] at hbx h ⊢
 ·refine call68 (by simp) ?_
  simp only [strip,bodyOf,Tryz.f68,getD_body,keepN,bareOp_mk,List.map_cons,List.map_nil,↓reduceIte,Bool.false_eq_true]
  simp only [↓sbD,sbU,tyB,↓reduceIte,Nat.reduceLT,reduceCtorEq,hbx]
  have := h σ fp (Kept.refl _ _)
  simp only [Bool.false_eq_true,if_false,stepW_nil] at this
  exact downS_here (this hw fun b hb => by have := hz b hb; omega)
 ·simp only [if_true] at h
  refine call68 (by simp) ?_
  simp only [strip,bodyOf,Tryz.f68,getD_body,keepN,bareOp_mk,List.map_cons,List.map_nil,↓reduceIte,Bool.false_eq_true]
  simp only [↓sbD,sbU,tyB,↓reduceIte,Nat.reduceEqDiff,Nat.reduceLT,reduceCtorEq,hbx]
  refine specRawR (n := 0) hw (fun b hb => by have := hz b hb; omega) (by omega) fun σ1 fp1 k1 w1 => ?_
  have z1 := leW_step (a := ⟨8,0,c⟩) hz
  simp only at z1
  simp only [↓sbD,sbU,tyB,↓reduceIte,Nat.reduceEqDiff,Nat.reduceLT,reduceCtorEq]
  refine specTextR (n := 0) w1 (fun b hb => by have := z1 b hb; omega) (by omega) fun σ2 fp2 k2 w2 => ?_
  have z2 := leW_step (a := ⟨6,0,l.topic⟩) z1
  simp only at z2
  simp only [↓sbD,sbU,tyB,↓reduceIte,Nat.reduceEqDiff,Nat.reduceLT,reduceCtorEq]
  refine specBinR (n := 0) w2 (fun b hb => by have := z2 b hb; omega) (by omega) fun σ3 fp3 k3 w3 => ?_
  have z3 := leW_step (a := ⟨7,0,l.pay⟩) z2
  simp only at z3
  simp only [↓sbD,sbU]
  have hR : stepW (stepW (stepW r [⟨8,0,c⟩]) [⟨6,0,l.topic⟩]) [⟨7,0,l.pay⟩] = stepW r [⟨8,0,c⟩,⟨6,0,l.topic⟩,⟨7,0,l.pay⟩] := by rw [stepW_app,stepW_app]; rfl
  rw [hR] at w3 z3
  exact downS_here (h _ _ (k1.trans (k2.trans k3)) w3 fun b hb => by have := z3 b hb; omega)
theorem specParts {p : Pk} {v : Value} (hp : PkV p v) (hm : bigPk p)
  (hok : ∀ a b,propsK p = .ok (a,b) → a.size ≤ 700000 → b.size ≤ 700000 → Q (.tuple #[.string a,.string b,.nilIface]) σ)
  (hbad : ∀ (k r a d : Nat) z c1 c2,propsK p = .error (k,r,a) → d ≤ 2 → ErN d (fv r a z) k → Q (.tuple #[.string c1,.string c2,fv r a z]) σ) : CallS E B 65 [v] σ Q := by
 obtain ⟨vp,vw,vs,vf,vc,d1,d2,d3,d4,d5,rfl⟩ := hp
 obtain ⟨up,uw,us,uf,uc,d1,d2,d3,d4,d5,-,hbx⟩ := boxPk d1 d2 d3 d4 d5
 simp only [pkC] at hbx ⊢
 unfold propsK at hok hbad
 have hc : p.will.has = false ∨ p.will.has = true := by cases p.will.has <;> simp
 rcases hc with hw | hw <;> simp only [hw] at hbx hok hbad ⊢
 all_goals
  refine call65 (by simp) ?_
  simp only [strip,bodyOf,Tryz.f65,getD_body,keepN,bareOp_mk,List.map_cons,List.map_nil,↓reduceIte,Bool.false_eq_true]
  simp only [↓sbD,sbU,tyB,↓reduceIte,Nat.reduceEqDiff,Nat.reduceLT,reduceCtorEq,hbx]
  refine specPEncode d1 hm.props (fun c hce hcz => ?_) fun k r a d z hce hd he => ?_
  rotate_left
  ·simp only [hce] at hbad
   simp only [↓sbD,sbU,tyB,↓reduceIte,Nat.reduceEqDiff,Nat.reduceLT,isConst]
   exact downS_here (hbad k r a d z _ _ rfl hd he)
  simp only [hce] at hok hbad
  simp only [↓sbD,sbU,tyB,↓reduceIte,Nat.reduceEqDiff,Nat.reduceLT,reduceCtorEq,isConst,not_bool]
 ·simp only [Bool.false_eq_true,if_false] at hok
  exact downS_here (hok c emp rfl hcz (Nat.zero_le _))
 ·simp only [if_true] at hok hbad
  refine specPEncode d2 hm.wprops (fun c2 hce2 hcz2 => ?_) fun k r a d z hce2 hd he => ?_
  ·simp only [hce2] at hok
   simp only [↓sbD,sbU,↓reduceIte,Nat.reduceEqDiff,Nat.reduceLT]
   exact downS_here (hok c c2 rfl hcz hcz2)
  ·simp only [hce2] at hbad
   simp only [↓sbD,sbU,↓reduceIte,Nat.reduceEqDiff,Nat.reduceLT]
   exact downS_here (hbad k r a d z _ _ rfl hd he)
theorem u8S_lt {s : ByteArray} {st : RSt} {n : Nat} {st' : RSt} (h : u8S s st = (n,st')) : n < 256 ∧ (∀ e,st' = .error e → n = 0) := by
 cases st' with
 | ok p => exact ⟨(okS_u8 h).1,fun e he => by cases he⟩
 | error e =>
  have : n = 0 := by
   unfold u8S stp at h
   repeat' split at h
   all_goals first
    | (simp only [Prod.mk.injEq] at h; exact h.1.symm)
    | (simp only [Prod.mk.injEq] at h; cases h.2)
    | cases h
  subst this
  exact ⟨by omega,fun _ _ => rfl⟩
theorem bitsK : ∀ n,n < 256 → n &&& 1 = n % 2 ∧ n &&& 24 = 8 * (n / 8 % 4) ∧ n &&& 4 = 4 * (n / 4 % 2) ∧ n &&& 56 = 8 * (n / 8 % 4) + 32 * (n / 32 % 2) ∧ n &&& 2 = 2 * (n / 2 % 2) ∧ n &&& 128 = 128 * (n / 128) ∧ n &&& 64 = 64 * (n / 64 % 2) ∧ n &&& 32 = 32 * (n / 32 % 2) := by decide +kernel
theorem specKoHead {r : Nat} (hr : IsRS σ r s (.ok 0)) (hs : s.size ≤ 100000000)
  (hok : ∀ n p,headS s = .ok (n,p) → ∀ σ',Kept σ [r] σ' [r] → IsRS σ' r s (.ok p) → Q (.tuple #[.int .i64 (n : Int),.nilIface]) σ')
  (hbad : ∀ k rr a : Nat,headS s = .error (k,rr,a) → ∀ σ' d z n,Kept σ [r] σ' [r] → d ≤ 3 → ErN d (fv rr a z) k → Q (.tuple #[.int .i64 n,fv rr a z]) σ') :
  CallS E B 70 [.pointer (some ⟨r,0,none⟩)] σ Q := by
 unfold headS at hok hbad
 refine call70 (by simp) ?_
 simp only [strip,bodyOf,Tryz.f70,getD_body,keepN,bareOp_mk,List.map_cons,List.map_nil,↓reduceIte,Bool.false_eq_true]
 simp (disch := first | assumption | simp) only [↓sbD,sbU,↓reduceIte,Nat.reduceLT,reduceCtorEq]
 refine specSText hr hs fun σ1 k1 r1 => ?_
 obtain ⟨t,st1,hT⟩ : ∃ t st1,textS s (.ok 0) = (t,st1) := ⟨_,_,rfl⟩
 simp only [hT] at hok hbad r1 ⊢
 obtain ⟨v,st2,hV⟩ : ∃ v st2,u8S s st1 = (v,st2) := ⟨_,_,rfl⟩
 simp only [hV] at hok hbad
 obtain ⟨n,st3,hN⟩ : ∃ n st3,u8S s st2 = (n,st3) := ⟨_,_,rfl⟩
 simp only [hN] at hok hbad
 unfold headK at hok hbad
 simp only at hok hbad
 simp (disch := first | assumption | simp) only [↓sbD,sbU,↓reduceIte,Nat.reduceLT,reduceCtorEq]
 refine specSErr r1 (fun p hp => ?_) fun k q d z hp hd he => ?_
 focus
  by_cases h1 : t = ⟨#[77,81,84,84]⟩
  rotate_left
  ·simp only [if_pos (show okP st1 = true ∧ t ≠ mqtt from ⟨by rw [hp]; rfl,h1⟩)] at hbad
   simp (disch := first | assumption | simp) only [↓sbD,sbU,tyB,↓reduceIte,Nat.reduceEqDiff,Nat.reduceLT,isConst,h1,gk3]
   refine specNew (n := 3) ⟨by omega,by omega⟩ ?_
   simp (disch := first | assumption | simp) only [↓sbD,sbU,↓reduceIte,Nat.reduceEqDiff,Nat.reduceLT]
   exact downS_here (hbad 3 132 0 rfl _ 1 _ 0 k1 (by omega) (ErN.new _ _ ⟨by omega,by omega⟩))
  have hne : ¬ (okP st1 = true ∧ t ≠ mqtt) := fun h => h.2 h1
  simp only [if_neg hne] at hok hbad
  simp (disch := first | assumption | simp) only [↓sbD,sbU,tyB,decide_false,↓reduceIte,Nat.reduceEqDiff,Nat.reduceLT,reduceCtorEq,isConst,h1]
 rotate_left
 focus
  have hne : ¬ (okP st1 = true ∧ t ≠ mqtt) := fun h => by rw [hp] at h; cases h.1
  simp only [if_neg hne] at hok hbad
  simp (disch := first | assumption | simp) only [↓sbD,sbU,tyB,↓reduceIte,Nat.reduceEqDiff,Nat.reduceLT,reduceCtorEq,isConst]
 all_goals
  clear hne hp
  refine specSU8 r1 hs fun σ2 k2 r2 => ?_
  simp only [hV] at r2 ⊢
  simp (disch := first | assumption | simp) only [↓sbD,sbU,↓reduceIte,Nat.reduceLT,reduceCtorEq]
  refine specSErr r2 (fun p hp => ?_) fun k q d z hp hd he => ?_
  focus
   by_cases h2 : v = 5
   rotate_left
   ·simp only [if_pos (show okP st2 = true ∧ v ≠ 5 from ⟨by rw [hp]; rfl,h2⟩)] at hbad
    have h2' : ¬ (v : Int) = 5 := by omega
    simp (disch := first | assumption | simp) only [↓sbD,sbU,tyB,↓reduceIte,Nat.reduceEqDiff,Nat.reduceLT,isConst,h2',gk3]
    refine specNew (n := 3) ⟨by omega,by omega⟩ ?_
    simp (disch := first | assumption | simp) only [↓sbD,sbU,↓reduceIte,Nat.reduceEqDiff,Nat.reduceLT]
    exact downS_here (hbad 3 132 6 rfl _ 1 _ 0 (k1.trans k2) (by omega) (ErN.new _ _ ⟨by omega,by omega⟩))
   have hne : ¬ (okP st2 = true ∧ v ≠ 5) := fun h => h.2 h2
   simp only [if_neg hne] at hok hbad
   have h2' : (v : Int) = 5 := by omega
   simp (disch := first | assumption | simp) only [↓sbD,sbU,tyB,decide_false,↓reduceIte,Nat.reduceEqDiff,Nat.reduceLT,reduceCtorEq,isConst,h2']
  rotate_left
  focus
   have hne : ¬ (okP st2 = true ∧ v ≠ 5) := fun h => by rw [hp] at h; cases h.1
   simp only [if_neg hne] at hok hbad
   simp (disch := first | assumption | simp) only [↓sbD,sbU,tyB,↓reduceIte,Nat.reduceEqDiff,Nat.reduceLT,reduceCtorEq,isConst]
  all_goals
   clear hne hp
   refine specSU8 r2 hs fun σ3 k3 r3 => ?_
   simp only [hN] at r3 ⊢
   have K3 := k1.trans (k2.trans k3)
   obtain ⟨hn,hn0⟩ := u8S_lt hN
   have andB : ∀ m : Nat,m < 256 → aint .and .i64 (n : Int) ((m : Nat) : Int) = some (.int .i64 ((n &&& m : Nat) : Int)) := fun m hm => and_nat (by omega) (by omega)
   obtain ⟨b1,b24,b4,b56,b2,b128,b64,b32⟩ := bitsK n hn
   have a1 : aint .and .i64 (n : Int) 1 = some (.int .i64 ((n &&& 1 : Nat) : Int)) := andB 1 (by omega)
   rw [b1] at a1
   have a24 : aint .and .i64 (n : Int) 24 = some (.int .i64 ((n &&& 24 : Nat) : Int)) := andB 24 (by omega)
   rw [b24] at a24
   have a4 : aint .and .i64 (n : Int) 4 = some (.int .i64 ((n &&& 4 : Nat) : Int)) := andB 4 (by omega)
   rw [b4] at a4
   have a56 : aint .and .i64 (n : Int) 56 = some (.int .i64 ((n &&& 56 : Nat) : Int)) := andB 56 (by omega)
   rw [b56] at a56
   cases hst : st3 with
   | error e =>
    obtain ⟨k,q⟩ := e
    have h0 := hn0 _ hst
    rw [hst] at hbad r3
    simp only at hbad
    have c1 : aint .and .i64 (n : Int) 1 = some (.int .i64 0) := by rw [a1,h0]; rfl
    have c24 : aint .and .i64 (n : Int) 24 = some (.int .i64 0) := by rw [a24,h0]; rfl
    have c4 : aint .and .i64 (n : Int) 4 = some (.int .i64 0) := by rw [a4,h0]; rfl
    have c56 : aint .and .i64 (n : Int) 56 = some (.int .i64 0) := by rw [a56,h0]; rfl
    simp (disch := first | assumption | simp) only [↓sbD,sbU,Int.reduceEq,decide_false,↓reduceIte,Nat.reduceEqDiff,Nat.reduceLT,reduceCtorEq,isConst,c1,c24,c4,c56]
    refine specSErr r3 (fun p hp => by cases hp) fun k q d z hp hd he => ?_
    simp only [Except.error.injEq,Prod.mk.injEq] at hp
    obtain ⟨rfl,rfl⟩ := hp
    simp (disch := first | assumption | simp) only [↓sbD,sbU,tyB,↓reduceIte,Nat.reduceEqDiff,Nat.reduceLT,reduceCtorEq,isConst]
    refine specSErr r3 (fun p hp => by cases hp) fun k' q' d z hp hd he => ?_
    simp only [Except.error.injEq,Prod.mk.injEq] at hp
    obtain ⟨rfl,rfl⟩ := hp
    simp (disch := first | assumption | simp) only [↓sbD,sbU,↓reduceIte,Nat.reduceEqDiff,Nat.reduceLT]
    exact downS_here (hbad _ 129 _ rfl _ d z _ K3 (by omega) he)
   | ok p =>
    rw [hst] at hok hbad r3
    simp only at hok hbad
    have CS : ∀ {P : Prop},(flBad n → n % 2 = 1 → P) → (flBad n → ¬ n % 2 = 1 → n / 8 % 4 = 3 → P) → (flBad n → ¬ n % 2 = 1 → ¬ n / 8 % 4 = 3 → n / 4 % 2 = 0 → ¬ 8 * (n / 8 % 4) + 32 * (n / 32 % 2) = 0 → P) → (¬ flBad n → ¬ n % 2 = 1 → ¬ n / 8 % 4 = 3 → n / 4 % 2 = 0 → 8 * (n / 8 % 4) + 32 * (n / 32 % 2) = 0 → P) → (¬ flBad n → ¬ n % 2 = 1 → ¬ n / 8 % 4 = 3 → ¬ n / 4 % 2 = 0 → P) → P := fun a b c d e => by
     unfold flBad at a b c d e
     by_cases h1 : n % 2 = 1
     ·exact a (.inl h1) h1
     by_cases h2 : n / 8 % 4 = 3
     ·exact b (.inr (.inl h2)) h1 h2
     by_cases h3 : n / 4 % 2 = 0
     ·by_cases h4 : 8 * (n / 8 % 4) + 32 * (n / 32 % 2) = 0
      ·exact d (by omega) h1 h2 h3 h4
      ·exact c (by omega) h1 h2 h3 h4
     ·exact e (by omega) h1 h2 h3
    refine CS (fun hb h1 => ?_) (fun hb h1 h2 => ?_) (fun hb h1 h2 h3 h4 => ?_) (fun hb h1 h2 h3 h4 => ?_) fun hb h1 h2 h3 => ?_
    focus
     have c1 : aint .and .i64 (n : Int) 1 = some (.int .i64 1) := by rw [a1,h1]; rfl
     simp (disch := first | assumption | simp) only [↓sbD,sbU,Int.reduceEq,↓reduceIte,Nat.reduceEqDiff,Nat.reduceLT,reduceCtorEq,isConst,c1]
    rotate_left
    focus
     have c1 : aint .and .i64 (n : Int) 1 = some (.int .i64 0) := by rw [a1,show n % 2 = 0 by omega]; rfl
     have c24 : aint .and .i64 (n : Int) 24 = some (.int .i64 24) := by rw [a24,h2]; rfl
     simp (disch := first | assumption | simp) only [↓sbD,sbU,decide_false,↓reduceIte,Nat.reduceEqDiff,Nat.reduceLT,reduceCtorEq,isConst,c1,c24]
    rotate_left
    focus
     have c1 : aint .and .i64 (n : Int) 1 = some (.int .i64 0) := by rw [a1,show n % 2 = 0 by omega]; rfl
     have g2 : ¬ ((8 * (n / 8 % 4) : Nat) : Int) = 24 := by omega
     have c4 : aint .and .i64 (n : Int) 4 = some (.int .i64 0) := by rw [a4,h3]; rfl
     have g4 : ¬ ((8 * (n / 8 % 4) + 32 * (n / 32 % 2) : Nat) : Int) = 0 := by omega
     simp (disch := first | assumption | simp) only [↓sbD,sbU,decide_false,↓reduceIte,Nat.reduceEqDiff,Nat.reduceLT,reduceCtorEq,isConst,c1,a24,g2,c4,a56,g4]
    rotate_left
    focus
     have c1 : aint .and .i64 (n : Int) 1 = some (.int .i64 0) := by rw [a1,show n % 2 = 0 by omega]; rfl
     have g2 : ¬ ((8 * (n / 8 % 4) : Nat) : Int) = 24 := by omega
     have c4 : aint .and .i64 (n : Int) 4 = some (.int .i64 0) := by rw [a4,h3]; rfl
     have c56 : aint .and .i64 (n : Int) 56 = some (.int .i64 0) := by rw [a56,h4]; rfl
     simp (disch := first | assumption | simp) only [↓sbD,sbU,decide_false,↓reduceIte,Nat.reduceEqDiff,Nat.reduceLT,reduceCtorEq,isConst,c1,a24,g2,c4,c56]
    rotate_left
    focus
     have c1 : aint .and .i64 (n : Int) 1 = some (.int .i64 0) := by rw [a1,show n % 2 = 0 by omega]; rfl
     have g2 : ¬ ((8 * (n / 8 % 4) : Nat) : Int) = 24 := by omega
     have g4 : ¬ ((4 * (n / 4 % 2) : Nat) : Int) = 0 := by omega
     simp (disch := first | assumption | simp) only [↓sbD,sbU,decide_false,↓reduceIte,Nat.reduceEqDiff,Nat.reduceLT,reduceCtorEq,isConst,c1,a24,g2,a4,g4]
    rotate_left
    all_goals
     refine specSErr r3 (fun p hp => ?_) fun k q d z hp hd he => by cases hp
     simp only [hb,if_true,if_false] at hok hbad
     first
      | (simp (disch := first | assumption | simp) only [↓sbD,sbU,tyB,↓reduceIte,Nat.reduceEqDiff,Nat.reduceLT,reduceCtorEq,isConst,gk2]
         refine specNew (n := 2) ⟨by omega,by omega⟩ ?_
         simp (disch := first | assumption | simp) only [↓sbD,sbU,↓reduceIte,Nat.reduceEqDiff,Nat.reduceLT]
         exact downS_here (hbad 2 129 7 rfl _ 1 _ 0 K3 (by omega) (ErN.new _ _ ⟨by omega,by omega⟩)))
      | (simp (disch := first | assumption | simp) only [↓sbD,sbU,tyB,↓reduceIte,Nat.reduceEqDiff,Nat.reduceLT,reduceCtorEq,isConst]
         refine specSErr r3 (fun p hp => ?_) fun k q d z hp hd he => by cases hp
         simp (disch := first | assumption | simp) only [↓sbD,sbU,↓reduceIte,Nat.reduceEqDiff,Nat.reduceLT]
         exact downS_here (hok _ _ rfl _ K3 r3))
end
section
variable {σ : AHeap} {Q : Value → AHeap → Prop} {s : ByteArray}
def BodyK (n : Nat) (s : ByteArray) (st : RSt) (r : Except E3 Pk) : Prop := ∃ x,ReadPS 1 s (u16S s st).2 x ∧ match x with
  | .error e => r = .error e
  | .ok (l,q) => willK n s (textS s (.ok q)).2 (coP n (u16S s st).1 l (textS s (.ok q)).1) r
theorem decI {a b : Prop} [Decidable a] [Decidable b] (h : a ↔ b) : decide a = decide b := decide_eq_decide.2 h
theorem specKoBody {x n : Nat} {st : RSt} (hr : IsRS σ x s st) (hn : n < 256) (hs : s.size ≤ 100000000)
  (hok : ∀ p,BodyK n s st (.ok p) → ∀ v σ',PkV p v → Kept σ [x] σ' [x] → Q (.tuple #[v,.nilIface]) σ')
  (hbad : ∀ k rr a : Nat,BodyK n s st (.error (k,rr,a)) → ∀ σ' d z p v,PkV p v → Kept σ [x] σ' [x] → d ≤ 3 → ErN d (fv rr a z) k → Q (.tuple #[v,fv rr a z]) σ') :
  CallS E B 71 [.pointer (some ⟨x,0,none⟩),.int .i64 (n : Int)] σ Q := by
 unfold BodyK at hok hbad
 have andB : ∀ m : Nat,m < 256 → aint .and .i64 (n : Int) ((m : Nat) : Int) = some (.int .i64 ((n &&& m : Nat) : Int)) := fun m hm => and_nat (by omega) (by omega)
 obtain ⟨b1,b24,b4,b56,b2,b128,b64,b32⟩ := bitsK n hn
 have a2 : aint .and .i64 (n : Int) 2 = some (.int .i64 ((n &&& 2 : Nat) : Int)) := andB 2 (by omega)
 rw [b2] at a2
 have a128 : aint .and .i64 (n : Int) 128 = some (.int .i64 ((n &&& 128 : Nat) : Int)) := andB 128 (by omega)
 rw [b128] at a128
 have a64 : aint .and .i64 (n : Int) 64 = some (.int .i64 ((n &&& 64 : Nat) : Int)) := andB 64 (by omega)
 rw [b64] at a64
 have a4 : aint .and .i64 (n : Int) 4 = some (.int .i64 ((n &&& 4 : Nat) : Int)) := andB 4 (by omega)
 rw [b4] at a4
 have a24 : aint .and .i64 (n : Int) 24 = some (.int .i64 ((n &&& 24 : Nat) : Int)) := andB 24 (by omega)
 rw [b24] at a24
 have a32 : aint .and .i64 (n : Int) 32 = some (.int .i64 ((n &&& 32 : Nat) : Int)) := andB 32 (by omega)
 rw [b32] at a32
 obtain ⟨kp,st2,hU⟩ : ∃ kp st2,u16S s st = (kp,st2) := ⟨_,_,rfl⟩
 simp only [hU] at hok hbad
 have hq8 : ∀ (τ : AHeap) (t : Nat) (cs : Bool),abin E τ .quo t cs (.int .i64 ((8 * (n / 8 % 4) : Nat) : Int)) (.int .i64 8) = some (.int .i64 ((n / 8 % 4 : Nat) : Int)) := fun τ t cs => by
  rw [divP (by omega) (by omega) (.inr rfl)]
  congr 2
  omega
 have e2 : decide (¬ ((2 * (n / 2 % 2) : Nat) : Int) = 0) = decide (n / 2 % 2 = 1) := decI (by omega)
 have e128 : decide (¬ ((128 * (n / 128) : Nat) : Int) = 0) = decide (n / 128 = 1) := decI (by omega)
 have e64 : decide (¬ ((64 * (n / 64 % 2) : Nat) : Int) = 0) = decide (n / 64 % 2 = 1) := decI (by omega)
 have e32 : decide (¬ ((32 * (n / 32 % 2) : Nat) : Int) = 0) = decide (n / 32 % 2 = 1) := decI (by omega)
 refine call71 (by simp) ?_
 simp only [strip,bodyOf,Tryz.f71,getD_body,keepN,bareOp_mk,lessOp_mk,lapp_cons,lapp_nil,List.map_cons,List.map_nil,↓reduceIte,Nat.reduceEqDiff,Bool.false_eq_true]
 simp only [↓sbD,sbU,↓reduceIte,Nat.reduceEqDiff,Nat.reduceLT,reduceCtorEq,isConst,AS_new,zePk,a2,a128,a64]
 intro b hb
 have hbx : b ≠ x := by rintro rfl; exact hr.alive hb
 generalize hσ1 : AHeap.set σ b _ = σ1
 have k1 : Kept σ [] σ1 [] := by rw [← hσ1]; exact (Kept.refl σ []).setD hb
 have r1 := hr.kept k1 (by simp)
 have gb1 : σ1.get b = .cells [.int .i64 0,.int .i64 0,.int .i64 0,.slice none 0 0,.bool false,.int .i64 0,.string emp,.bool false,.string emp,.string emp,.int .i64 0,.bool false,.slice none 0 0,.bool false,.string emp,.bool false,.string emp,.bool false,.string emp,.string emp,.int .i64 0,.bool false,.bool false,.slice none 0 0,.slice none 0 0,.slice none 0 0] true 0 := by rw [← hσ1]; exact AHeap.get_set_same _ _ _
 clear hσ1
 refine specSU16 r1 hs fun σ2 k2 r2 => ?_
 simp only [hU] at r2 ⊢
 have gb2 := (k2.at gb1 (by simp) (by simp [hbx])).1
 have K2 : Kept σ [x] σ2 [x] := (k1.wid (gp := [x]) (gp' := [x]) (fun _ h => by cases h) (fun _ h => .inr h)).trans k2
 simp only [↓sbD,sbU,tyB,↓reduceIte,Nat.reduceEqDiff,Nat.reduceLT,Nat.reduceAdd,Nat.reduceLeDiff,reduceCtorEq,pairs,splice,ZV.val,AS_new,zePk]
 intro y hy
 have hyx : y ≠ x := by rintro rfl; exact r2.alive hy
 have hyb : b ≠ y := by rintro rfl; rw [gb2] at hy; cases hy
 generalize hσ3 : AHeap.set (AHeap.set σ2 y _) y _ = σ3
 have M3 : Kept σ2 [x] σ3 [x] := by rw [← hσ3]; exact ((Kept.refl _ _).setD hy).setD hy
 have r3 := r2.kept (show Kept σ2 [] σ3 [] by rw [← hσ3]; exact ((Kept.refl _ []).setD hy).setD hy) (by simp)
 have gy3 : σ3.get y = .cells [.int .i64 1,.int .i64 0,.int .i64 0,.slice none 0 0,.bool (decide (n / 2 % 2 = 1)),.int .i64 (kp : Int),.string emp,.bool false,.string emp,.string emp,.int .i64 0,.bool false,.slice none 0 0,.bool (decide (n / 128 = 1)),.string emp,.bool (decide (n / 64 % 2 = 1)),.string emp,.bool false,.string emp,.string emp,.int .i64 0,.bool false,.bool false,.slice none 0 0,.slice none 0 0,.slice none 0 0] true 0 := by rw [← hσ3,← e2,← e128,← e64]; exact AHeap.get_set_same _ _ _
 clear hσ3
 try simp only [↓sbD,sbU,tyB,Nat.reduceMul,Nat.reduceSub,Int.reduceEq,Int.reduceLT,Int.reduceLE,Int.reduceNe,Nat.reduceBneDiff,Nat.reduceBEq,decide_false,gt_iff_lt,Bool.or_self,Bool.false_eq_true,Nat.mul_one,Nat.one_mul,Nat.zero_mul,↓reduceIte,Nat.reduceEqDiff,Nat.reduceLT,Nat.reduceAdd,Nat.reduceLeDiff,reduceCtorEq,goInt,pairs,isConst,TI.isAgg,splice,boxS,Edp,dpv,Nat.beq_eq,ZV.val,List.any_cons,List.any_nil,Bool.false_and]
 refine specSRead r3 hs (fun l q hrd v σ4 hv k4 r4 => ?_) fun k rr a hrd σ4 d' z k4 hd' he => ?_
 rotate_left
 ·have M4 := M3.trans k4
  have gy4 := (k4.at gy3 (by simp) (by simp [hyx])).1
  simp only [↓sbD,sbU,tyB,↓reduceIte,Nat.reduceEqDiff,Nat.reduceLT,Nat.reduceAdd,Nat.reduceLeDiff,reduceCtorEq,isConst,splice,gy4]
  generalize hσ5 : AHeap.set σ4 y _ = σ5
  have M5 : Kept σ2 [x] σ5 [x] := by rw [← hσ5]; exact M4.setD hy
  have gy5 : σ5.get y = .cells [.int .i64 1,.int .i64 0,.int .i64 0,.slice none 0 0,.bool (decide (n / 2 % 2 = 1)),.int .i64 (kp : Int),.string emp,.bool false,.string emp,.string emp,.int .i64 0,.bool false,.slice none 0 0,.bool (decide (n / 128 = 1)),.string emp,.bool (decide (n / 64 % 2 = 1)),.string emp,.bool false,.string emp,.string emp,.int .i64 0,.bool false,.bool false,.slice none 0 0,.slice none 0 0,.slice none 0 0] true 0 := by
   rw [← hσ5]
   first
    | exact AHeap.get_set_same _ _ _
    | (rw [du]; exact AHeap.get_set_same _ _ _)
    | (rw [dp]; exact AHeap.get_set_same _ _ _)
    | (rw [du,dp]; exact AHeap.get_set_same _ _ _)
  clear hσ5
  have gb5 := (M5.at gb2 (by simp) (by simp [hbx])).1
  simp only [↓sbD,sbU,tyB,↓reduceIte,Nat.reduceEqDiff,Nat.reduceLT,Nat.reduceAdd,Nat.reduceLeDiff,splice,gb5,res_cellc,resC_some]
  exact downS_here (hbad k rr a ⟨_,hrd,rfl⟩ _ d' z (coP n kp [] emp wlz emp emp) _ ⟨_,_,_,_,_,.inl ⟨rfl,rfl⟩,.inl ⟨rfl,rfl⟩,.inl ⟨rfl,rfl⟩,.inl ⟨rfl,rfl⟩,.inl ⟨rfl,rfl⟩,rfl⟩ ((K2.trans M5).setD hb) hd' he)
 have M4 := M3.trans k4
 have gy4 := (k4.at gy3 (by simp) (by simp [hyx])).1
 have hvc := dl_vc hv
 simp only [↓sbD,sbU,tyB,↓reduceIte,Nat.reduceEqDiff,Nat.reduceLT,Nat.reduceAdd,Nat.reduceLeDiff,reduceCtorEq,isConst,splice,gy4,hvc.1,hvc.2]
 generalize hσ5 : AHeap.set σ4 y _ = σ5
 have M5 : Kept σ2 [x] σ5 [x] := by rw [← hσ5]; exact M4.setD hy
 have r5 := r4.kept (show Kept σ4 [y] σ5 [y] by rw [← hσ5]; exact Kept.set (by simp)) (by simp [Ne.symm hyx])
 have gy5 : σ5.get y = .cells [.int .i64 1,.int .i64 0,.int .i64 0,v,.bool (decide (n / 2 % 2 = 1)),.int .i64 (kp : Int),.string emp,.bool false,.string emp,.string emp,.int .i64 0,.bool false,.slice none 0 0,.bool (decide (n / 128 = 1)),.string emp,.bool (decide (n / 64 % 2 = 1)),.string emp,.bool false,.string emp,.string emp,.int .i64 0,.bool false,.bool false,.slice none 0 0,.slice none 0 0,.slice none 0 0] true 0 := by
  rw [← hσ5]
  first
   | exact AHeap.get_set_same _ _ _
   | (rw [du]; exact AHeap.get_set_same _ _ _)
   | (rw [dp]; exact AHeap.get_set_same _ _ _)
   | (rw [du,dp]; exact AHeap.get_set_same _ _ _)
 clear hσ5
 try simp only [↓sbD,sbU,tyB,Nat.reduceMul,Nat.reduceSub,Int.reduceEq,Int.reduceLT,Int.reduceLE,Int.reduceNe,Nat.reduceBneDiff,Nat.reduceBEq,decide_false,gt_iff_lt,Bool.or_self,Bool.false_eq_true,Nat.mul_one,Nat.one_mul,Nat.zero_mul,↓reduceIte,Nat.reduceEqDiff,Nat.reduceLT,Nat.reduceAdd,Nat.reduceLeDiff,reduceCtorEq,goInt,pairs,isConst,TI.isAgg,splice,boxS,Edp,dpv,Nat.beq_eq,ZV.val,List.any_cons,List.any_nil,Bool.false_and]
 refine specSText r5 hs fun σ6 k6 r6 => ?_
 obtain ⟨cl,st3,hC⟩ : ∃ cl st3,textS s (.ok q) = (cl,st3) := ⟨_,_,rfl⟩
 simp only [hC] at r6 ⊢
 have M6 := M5.trans k6
 have gy6 := (k6.at gy5 (by simp) (by simp [hyx])).1
 simp only [↓sbD,sbU,tyB,↓reduceIte,Nat.reduceEqDiff,Nat.reduceLT,Nat.reduceAdd,Nat.reduceLeDiff,reduceCtorEq,isConst,splice,gy6]
 generalize hσ7 : AHeap.set σ6 y _ = σ7
 have M7 : Kept σ2 [x] σ7 [x] := by rw [← hσ7]; exact M6.setD hy
 have r7 := r6.kept (show Kept σ6 [y] σ7 [y] by rw [← hσ7]; exact Kept.set (by simp)) (by simp [Ne.symm hyx])
 have gy7 : σ7.get y = .cells [.int .i64 1,.int .i64 0,.int .i64 0,v,.bool (decide (n / 2 % 2 = 1)),.int .i64 (kp : Int),.string cl,.bool false,.string emp,.string emp,.int .i64 0,.bool false,.slice none 0 0,.bool (decide (n / 128 = 1)),.string emp,.bool (decide (n / 64 % 2 = 1)),.string emp,.bool false,.string emp,.string emp,.int .i64 0,.bool false,.bool false,.slice none 0 0,.slice none 0 0,.slice none 0 0] true 0 := by
  rw [← hσ7]
  first
   | exact AHeap.get_set_same _ _ _
   | (rw [du]; exact AHeap.get_set_same _ _ _)
   | (rw [dp]; exact AHeap.get_set_same _ _ _)
   | (rw [du,dp]; exact AHeap.get_set_same _ _ _)
 clear hσ7
 have hok' : ∀ p,willK n s st3 (coP n kp l cl) (.ok p) → ∀ v σ',PkV p v → Kept σ [x] σ' [x] → Q (.tuple #[v,.nilIface]) σ' := fun p h => hok p ⟨_,hrd,by simp only [hC]; exact h⟩
 have hbad' : ∀ k rr a : Nat,willK n s st3 (coP n kp l cl) (.error (k,rr,a)) → ∀ σ' d z p v,PkV p v → Kept σ [x] σ' [x] → d ≤ 3 → ErN d (fv rr a z) k → Q (.tuple #[v,fv rr a z]) σ' := fun k rr a h => hbad k rr a ⟨_,hrd,by simp only [hC]; exact h⟩
 clear hok hbad hC hrd
 unfold willK at hok' hbad'
 by_cases h4 : n / 4 % 2 = 1
 focus
  simp only [if_pos h4] at hok' hbad'
  have g4 : ¬ ((4 * (n / 4 % 2) : Nat) : Int) = 0 := by omega
  simp only [↓sbD,sbU,tyB,↓reduceIte,Nat.reduceEqDiff,Nat.reduceLT,Nat.reduceAdd,Nat.reduceLeDiff,reduceCtorEq,pairs,isConst,splice,ZV.val,a4,g4,a24,hq8,a32,gy7]
  generalize hσ8 : AHeap.set σ7 y _ = σ8
  have M8 : Kept σ2 [x] σ8 [x] := by rw [← hσ8]; exact M7.setD hy
  have r8 := r7.kept (show Kept σ7 [y] σ8 [y] by rw [← hσ8]; exact Kept.set (by simp)) (by simp [Ne.symm hyx])
  have gy8 : σ8.get y = .cells [.int .i64 1,.int .i64 0,.int .i64 0,v,.bool (decide (n / 2 % 2 = 1)),.int .i64 (kp : Int),.string cl,.bool true,.string emp,.string emp,.int .i64 ((n / 8 % 4 : Nat) : Int),.bool (decide (n / 32 % 2 = 1)),.slice none 0 0,.bool (decide (n / 128 = 1)),.string emp,.bool (decide (n / 64 % 2 = 1)),.string emp,.bool false,.string emp,.string emp,.int .i64 0,.bool false,.bool false,.slice none 0 0,.slice none 0 0,.slice none 0 0] true 0 := by
   rw [← hσ8,← e32]
   first
    | exact AHeap.get_set_same _ _ _
    | (rw [du]; exact AHeap.get_set_same _ _ _)
    | (rw [dp]; exact AHeap.get_set_same _ _ _)
    | (rw [du,dp]; exact AHeap.get_set_same _ _ _)
  clear hσ8
  try simp only [↓sbD,sbU,tyB,Nat.reduceMul,Nat.reduceSub,Int.reduceEq,Int.reduceLT,Int.reduceLE,Int.reduceNe,Nat.reduceBneDiff,Nat.reduceBEq,decide_false,gt_iff_lt,Bool.or_self,Bool.false_eq_true,Nat.mul_one,Nat.one_mul,Nat.zero_mul,↓reduceIte,Nat.reduceEqDiff,Nat.reduceLT,Nat.reduceAdd,Nat.reduceLeDiff,reduceCtorEq,goInt,pairs,isConst,TI.isAgg,splice,boxS,Edp,dpv,Nat.beq_eq,ZV.val,List.any_cons,List.any_nil,Bool.false_and]
  refine specSRead r8 hs (fun m q2 hrd vm σ9 hvm k9 r9 => ?_) fun k rr a hrd σ9 d' z k9 hd' he => ?_
  rotate_left
  ·have M9 := M8.trans k9
   have gy9 := (k9.at gy8 (by simp) (by simp [hyx])).1
   simp only [↓sbD,sbU,tyB,↓reduceIte,Nat.reduceEqDiff,Nat.reduceLT,Nat.reduceAdd,Nat.reduceLeDiff,reduceCtorEq,isConst,splice,gy9]
   generalize hσ10 : AHeap.set σ9 y _ = σ10
   have M10 : Kept σ2 [x] σ10 [x] := by rw [← hσ10]; exact M9.setD hy
   have gy10 : σ10.get y = .cells [.int .i64 1,.int .i64 0,.int .i64 0,v,.bool (decide (n / 2 % 2 = 1)),.int .i64 (kp : Int),.string cl,.bool true,.string emp,.string emp,.int .i64 ((n / 8 % 4 : Nat) : Int),.bool (decide (n / 32 % 2 = 1)),.slice none 0 0,.bool (decide (n / 128 = 1)),.string emp,.bool (decide (n / 64 % 2 = 1)),.string emp,.bool false,.string emp,.string emp,.int .i64 0,.bool false,.bool false,.slice none 0 0,.slice none 0 0,.slice none 0 0] true 0 := by rw [← hσ10]; exact AHeap.get_set_same _ _ _
   clear hσ10
   have gb10 := (M10.at gb2 (by simp) (by simp [hbx])).1
   simp only [↓sbD,sbU,tyB,↓reduceIte,Nat.reduceEqDiff,Nat.reduceLT,Nat.reduceAdd,Nat.reduceLeDiff,splice,gb10,hvc.2,res_cellc,resC_some]
   exact downS_here (hbad' k rr a ⟨_,hrd,rfl⟩ _ d' z (coP n kp l cl (coW n emp emp []) emp emp) _ ⟨_,_,_,_,_,hv,.inl ⟨rfl,rfl⟩,.inl ⟨rfl,rfl⟩,.inl ⟨rfl,rfl⟩,.inl ⟨rfl,rfl⟩,rfl⟩ ((K2.trans M10).setD hb) hd' he)
  have M9 := M8.trans k9
  have gy9 := (k9.at gy8 (by simp) (by simp [hyx])).1
  have hvm' := dl_vc hvm
  simp only [↓sbD,sbU,tyB,↓reduceIte,Nat.reduceEqDiff,Nat.reduceLT,Nat.reduceAdd,Nat.reduceLeDiff,reduceCtorEq,isConst,splice,gy9,hvm'.1,hvm'.2]
  generalize hσ10 : AHeap.set σ9 y _ = σ10
  have M10 : Kept σ2 [x] σ10 [x] := by rw [← hσ10]; exact M9.setD hy
  have r10 := r9.kept (show Kept σ9 [y] σ10 [y] by rw [← hσ10]; exact Kept.set (by simp)) (by simp [Ne.symm hyx])
  have gy10 : σ10.get y = .cells [.int .i64 1,.int .i64 0,.int .i64 0,v,.bool (decide (n / 2 % 2 = 1)),.int .i64 (kp : Int),.string cl,.bool true,.string emp,.string emp,.int .i64 ((n / 8 % 4 : Nat) : Int),.bool (decide (n / 32 % 2 = 1)),vm,.bool (decide (n / 128 = 1)),.string emp,.bool (decide (n / 64 % 2 = 1)),.string emp,.bool false,.string emp,.string emp,.int .i64 0,.bool false,.bool false,.slice none 0 0,.slice none 0 0,.slice none 0 0] true 0 := by
   rw [← hσ10]
   first
    | exact AHeap.get_set_same _ _ _
    | (rw [du]; exact AHeap.get_set_same _ _ _)
    | (rw [dp]; exact AHeap.get_set_same _ _ _)
    | (rw [du,dp]; exact AHeap.get_set_same _ _ _)
  clear hσ10
  try simp only [↓sbD,sbU,tyB,Nat.reduceMul,Nat.reduceSub,Int.reduceEq,Int.reduceLT,Int.reduceLE,Int.reduceNe,Nat.reduceBneDiff,Nat.reduceBEq,decide_false,gt_iff_lt,Bool.or_self,Bool.false_eq_true,Nat.mul_one,Nat.one_mul,Nat.zero_mul,↓reduceIte,Nat.reduceEqDiff,Nat.reduceLT,Nat.reduceAdd,Nat.reduceLeDiff,reduceCtorEq,goInt,pairs,isConst,TI.isAgg,splice,boxS,Edp,dpv,Nat.beq_eq,ZV.val,List.any_cons,List.any_nil,Bool.false_and]
  refine specSText r10 hs fun σ11 k11 r11 => ?_
  obtain ⟨wt,st4,hW⟩ : ∃ wt st4,textS s (.ok q2) = (wt,st4) := ⟨_,_,rfl⟩
  simp only [hW] at r11 ⊢
  have M11 := M10.trans k11
  have gy11 := (k11.at gy10 (by simp) (by simp [hyx])).1
  simp only [↓sbD,sbU,↓reduceIte,Nat.reduceLT,reduceCtorEq]
  refine specSBin r11 hs fun σ12 k12 r12 => ?_
  obtain ⟨wp,st5,hX⟩ : ∃ wp st5,binS s st4 = (wp,st5) := ⟨_,_,rfl⟩
  simp only [hX] at r12 ⊢
  have M12 := M11.trans k12
  have gy12 := (k12.at gy11 (by simp) (by simp [hyx])).1
  simp only [↓sbD,sbU,tyB,↓reduceIte,Nat.reduceEqDiff,Nat.reduceLT,Nat.reduceAdd,Nat.reduceLeDiff,reduceCtorEq,splice,gy12]
  generalize hσ13 : AHeap.set (AHeap.set σ12 y _) y _ = σ13
  have M13 : Kept σ2 [x] σ13 [x] := by rw [← hσ13]; exact (M12.setD hy).setD hy
  have r13 := r12.kept (show Kept σ12 [y] σ13 [y] by rw [← hσ13]; exact (Kept.set (by simp)).trans (Kept.set (by simp))) (by simp [Ne.symm hyx])
  have gy13 : σ13.get y = .cells [.int .i64 1,.int .i64 0,.int .i64 0,v,.bool (decide (n / 2 % 2 = 1)),.int .i64 (kp : Int),.string cl,.bool true,.string wt,.string wp,.int .i64 ((n / 8 % 4 : Nat) : Int),.bool (decide (n / 32 % 2 = 1)),vm,.bool (decide (n / 128 = 1)),.string emp,.bool (decide (n / 64 % 2 = 1)),.string emp,.bool false,.string emp,.string emp,.int .i64 0,.bool false,.bool false,.slice none 0 0,.slice none 0 0,.slice none 0 0] true 0 := by rw [← hσ13]; exact AHeap.get_set_same _ _ _
  clear hσ13
  have hokF : ∀ p,finK n s st5 (coP n kp l cl (coW n wt wp m)) = .ok p → ∀ v σ',PkV p v → Kept σ [x] σ' [x] → Q (.tuple #[v,.nilIface]) σ' := fun p h => hok' p ⟨_,hrd,by simp only [hW,hX]; exact h.symm⟩
  have hbadF : ∀ k rr a : Nat,finK n s st5 (coP n kp l cl (coW n wt wp m)) = .error (k,rr,a) → ∀ σ' d z p v,PkV p v → Kept σ [x] σ' [x] → d ≤ 3 → ErN d (fv rr a z) k → Q (.tuple #[v,fv rr a z]) σ' := fun k rr a h => hbad' k rr a ⟨_,hrd,by simp only [hW,hX]; exact h.symm⟩
  have hwv : DL propC 4 vm (coW n wt wp m).props := hvm
  have hww : σ13.get y = .cells (pkC (coP n kp l cl (coW n wt wp m) emp emp) v vm (.slice none 0 0) (.slice none 0 0) (.slice none 0 0)) true 0 := gy13
  have hwm := hvm'
  generalize coW n wt wp m = W at hokF hbadF hwv hww
  generalize st5 = stw at hokF hbadF r13
  clear hok' hbad' gy13 gy12 gy11 gy10 gy9 gy8 hrd
 rotate_left
 focus
  simp only [if_neg h4] at hok' hbad'
  have g4 : ((4 * (n / 4 % 2) : Nat) : Int) = 0 := by omega
  simp only [↓sbD,sbU,tyB,decide_false,↓reduceIte,Nat.reduceEqDiff,Nat.reduceLT,reduceCtorEq,isConst,a4,g4]
  have hokF : ∀ p,finK n s st3 (coP n kp l cl wlz) = .ok p → ∀ v σ',PkV p v → Kept σ [x] σ' [x] → Q (.tuple #[v,.nilIface]) σ' := fun p h => hok' p h.symm
  have hbadF : ∀ k rr a : Nat,finK n s st3 (coP n kp l cl wlz) = .error (k,rr,a) → ∀ σ' d z p v,PkV p v → Kept σ [x] σ' [x] → d ≤ 3 → ErN d (fv rr a z) k → Q (.tuple #[v,fv rr a z]) σ' := fun k rr a h => hbad' k rr a h.symm
  obtain ⟨vm,hwv,hwm,hww⟩ : ∃ vm,DL propC 4 vm wlz.props ∧ (vcells vm = [vm] ∧ oneCell vm = true) ∧ σ7.get y = .cells (pkC (coP n kp l cl wlz emp emp) v vm (.slice none 0 0) (.slice none 0 0) (.slice none 0 0)) true 0 := ⟨.slice none 0 0,.inl ⟨rfl,rfl⟩,⟨rfl,rfl⟩,gy7⟩
  have M13 := M7
  have r13 := r7
  generalize wlz = W at hokF hbadF hwv hww
  generalize st3 = stw at hokF hbadF r13
  clear hok' hbad'
 all_goals
  simp only [pkC,coP,pkz] at hww
  unfold finK at hokF hbadF
  by_cases hu : n / 128 = 1
  focus
   have du : decide (n / 128 = 1) = true := decide_eq_true hu
   simp only [↓sbD,sbU,↓reduceIte,Nat.reduceLT,reduceCtorEq,hww,du]
   refine specSText r13 hs fun σ14 k14 r14 => ?_
   obtain ⟨us,st6,hY⟩ : ∃ us st6,textS s stw = (us,st6) := ⟨_,_,rfl⟩
   simp only [hY] at r14 ⊢
   have hUS : userS n s stw = (us,st6) := by unfold userS; rw [if_pos hu,hY]
   have M14 := M13.trans k14
   have gy14 := (k14.at hww (by simp) (by simp [hyx])).1
   simp only [↓sbD,sbU,tyB,↓reduceIte,Nat.reduceEqDiff,Nat.reduceLT,Nat.reduceAdd,Nat.reduceLeDiff,reduceCtorEq,splice,gy14]
   generalize hσ15 : AHeap.set σ14 y _ = σ15
   have M15 : Kept σ2 [x] σ15 [x] := by rw [← hσ15]; exact M14.setD hy
   have r15 := r14.kept (show Kept σ14 [y] σ15 [y] by rw [← hσ15]; exact Kept.set (by simp)) (by simp [Ne.symm hyx])
   have gy15 : σ15.get y = .cells [.int .i64 1,.int .i64 0,.int .i64 0,v,.bool (decide (n / 2 % 2 = 1)),.int .i64 (kp : Int),.string cl,.bool W.has,.string W.topic,.string W.pay,.int .i64 W.qos,.bool W.ret,vm,.bool (decide (n / 128 = 1)),.string us,.bool (decide (n / 64 % 2 = 1)),.string emp,.bool false,.string emp,.string emp,.int .i64 0,.bool false,.bool false,.slice none 0 0,.slice none 0 0,.slice none 0 0] true 0 := by
    rw [← hσ15]
    first
     | exact AHeap.get_set_same _ _ _
     | (rw [du]; exact AHeap.get_set_same _ _ _)
     | (rw [dp]; exact AHeap.get_set_same _ _ _)
     | (rw [du,dp]; exact AHeap.get_set_same _ _ _)
   clear hσ15
  rotate_left
  focus
   have du : decide (n / 128 = 1) = false := decide_eq_false hu
   simp only [↓sbD,sbU,tyB,↓reduceIte,Nat.reduceEqDiff,Nat.reduceLT,reduceCtorEq,hww,du]
   have hUS : userS n s stw = (emp,stw) := if_neg hu
   obtain ⟨us,hus⟩ : ∃ us,emp = us := ⟨_,rfl⟩
   obtain ⟨st6,hst6⟩ : ∃ q,stw = q := ⟨_,rfl⟩
   rw [hst6,hus] at hUS
   rw [hst6] at r13 hokF hbadF
   have gy15 := hww.trans (show AObj.cells [.int .i64 1,.int .i64 0,.int .i64 0,v,.bool (decide (n / 2 % 2 = 1)),.int .i64 (kp : Int),.string cl,.bool W.has,.string W.topic,.string W.pay,.int .i64 W.qos,.bool W.ret,vm,.bool (decide (n / 128 = 1)),.string emp,.bool (decide (n / 64 % 2 = 1)),.string emp,.bool false,.string emp,.string emp,.int .i64 0,.bool false,.bool false,.slice none 0 0,.slice none 0 0,.slice none 0 0] true 0 = AObj.cells [.int .i64 1,.int .i64 0,.int .i64 0,v,.bool (decide (n / 2 % 2 = 1)),.int .i64 (kp : Int),.string cl,.bool W.has,.string W.topic,.string W.pay,.int .i64 W.qos,.bool W.ret,vm,.bool (decide (n / 128 = 1)),.string us,.bool (decide (n / 64 % 2 = 1)),.string emp,.bool false,.string emp,.string emp,.int .i64 0,.bool false,.bool false,.slice none 0 0,.slice none 0 0,.slice none 0 0] true 0 by rw [← hus])
   have M15 := M13
   have r15 := r13
  all_goals
   rw [hUS] at hokF hbadF
   simp only at hokF hbadF
   clear hUS hww
   by_cases hp : n / 64 % 2 = 1
   focus
    have dp : decide (n / 64 % 2 = 1) = true := decide_eq_true hp
    simp only [↓sbD,sbU,↓reduceIte,Nat.reduceLT,reduceCtorEq,dp]
    refine specSBin r15 hs fun σ16 k16 r16 => ?_
    obtain ⟨pw,st7,hZ⟩ : ∃ pw st7,binS s st6 = (pw,st7) := ⟨_,_,rfl⟩
    simp only [hZ] at r16 ⊢
    have hPS : passS n s st6 = (pw,st7) := by unfold passS; rw [if_pos hp,hZ]
    have M16 := M15.trans k16
    have gy16 := (k16.at gy15 (by simp) (by simp [hyx])).1
    simp only [↓sbD,sbU,tyB,↓reduceIte,Nat.reduceEqDiff,Nat.reduceLT,Nat.reduceAdd,Nat.reduceLeDiff,reduceCtorEq,splice,gy16]
    generalize hσ17 : AHeap.set σ16 y _ = σ17
    have M17 : Kept σ2 [x] σ17 [x] := by rw [← hσ17]; exact M16.setD hy
    have r17 := r16.kept (show Kept σ16 [y] σ17 [y] by rw [← hσ17]; exact Kept.set (by simp)) (by simp [Ne.symm hyx])
    have gy17 : σ17.get y = .cells [.int .i64 1,.int .i64 0,.int .i64 0,v,.bool (decide (n / 2 % 2 = 1)),.int .i64 (kp : Int),.string cl,.bool W.has,.string W.topic,.string W.pay,.int .i64 W.qos,.bool W.ret,vm,.bool (decide (n / 128 = 1)),.string us,.bool (decide (n / 64 % 2 = 1)),.string pw,.bool false,.string emp,.string emp,.int .i64 0,.bool false,.bool false,.slice none 0 0,.slice none 0 0,.slice none 0 0] true 0 := by
     rw [← hσ17]
     first
      | exact AHeap.get_set_same _ _ _
      | (rw [du]; exact AHeap.get_set_same _ _ _)
      | (rw [dp]; exact AHeap.get_set_same _ _ _)
      | (rw [du,dp]; exact AHeap.get_set_same _ _ _)
    clear hσ17
    clear gy16
   rotate_left
   focus
    have dp : decide (n / 64 % 2 = 1) = false := decide_eq_false hp
    simp only [↓sbD,sbU,tyB,↓reduceIte,Nat.reduceEqDiff,Nat.reduceLT,Nat.reduceAdd,Nat.reduceLeDiff,reduceCtorEq,gy15,dp]
    have hPS : passS n s st6 = (emp,st6) := if_neg hp
    obtain ⟨pw,hpw⟩ : ∃ pw,emp = pw := ⟨_,rfl⟩
    obtain ⟨st7,hst7⟩ : ∃ q,st6 = q := ⟨_,rfl⟩
    rw [hpw] at hPS
    have gy17 := gy15.trans (show AObj.cells [.int .i64 1,.int .i64 0,.int .i64 0,v,.bool (decide (n / 2 % 2 = 1)),.int .i64 (kp : Int),.string cl,.bool W.has,.string W.topic,.string W.pay,.int .i64 W.qos,.bool W.ret,vm,.bool (decide (n / 128 = 1)),.string us,.bool (decide (n / 64 % 2 = 1)),.string emp,.bool false,.string emp,.string emp,.int .i64 0,.bool false,.bool false,.slice none 0 0,.slice none 0 0,.slice none 0 0] true 0 = AObj.cells [.int .i64 1,.int .i64 0,.int .i64 0,v,.bool (decide (n / 2 % 2 = 1)),.int .i64 (kp : Int),.string cl,.bool W.has,.string W.topic,.string W.pay,.int .i64 W.qos,.bool W.ret,vm,.bool (decide (n / 128 = 1)),.string us,.bool (decide (n / 64 % 2 = 1)),.string pw,.bool false,.string emp,.string emp,.int .i64 0,.bool false,.bool false,.slice none 0 0,.slice none 0 0,.slice none 0 0] true 0 by rw [← hpw])
    have M17 := M15
    have r17 := r15
    rw [hst7] at r17
    have hPS : passS n s st6 = (pw,st7) := by rw [hPS,hst7]
   all_goals
    rw [hPS] at hokF hbadF
    simp only at hokF hbadF
    clear gy15
    have gb17 := (M17.at gb2 (by simp) (by simp [hbx])).1
    try simp only [↓sbD,sbU,tyB,Nat.reduceMul,Nat.reduceSub,Int.reduceEq,Int.reduceLT,Int.reduceLE,Int.reduceNe,Nat.reduceBneDiff,Nat.reduceBEq,decide_false,gt_iff_lt,Bool.or_self,Bool.false_eq_true,Nat.mul_one,Nat.one_mul,Nat.zero_mul,↓reduceIte,Nat.reduceEqDiff,Nat.reduceLT,Nat.reduceAdd,Nat.reduceLeDiff,reduceCtorEq,goInt,pairs,isConst,TI.isAgg,splice,boxS,Edp,dpv,Nat.beq_eq,ZV.val,List.any_cons,List.any_nil,Bool.false_and,gy17,gb17,hvc.1,hvc.2,hwm.1,hwm.2,Bool.and_self,Bool.and_true,AHeap.get_set_same,res_cellc,resC_some,List.length_cons,List.length_nil,List.cons_append,List.nil_append,List.drop_succ_cons,List.drop_zero,List.set_cons_zero,List.set_cons_succ,decide_true]
    refine specSDone r17 hs (fun hend => ?_) fun k q d z hend hd he => ?_
    all_goals
     simp only [↓sbD,sbU,tyB,↓reduceIte,Nat.reduceEqDiff,Nat.reduceLT,Nat.reduceAdd,Nat.reduceLeDiff,splice,gb17,hvc.2,hwm.2]
     refine drawS_l (fl := [(0,2)]) (by kernel_rfl) ?_ ?_
     rotate_left; simp only [lastP_cc,lastP_one]; rotate_left
     ·simp only [List.all_cons,List.all_nil,floatS,List.getElem?_cons_succ,List.getElem?_cons_zero,List.getElem?_toArray,Region.wanted,Bool.not_true,Bool.not_false,Bool.or_true,reads,looksWeak,aev_tmp,upd_at,↓reduceIte,Nat.reduceEqDiff,Nat.reduceLT,Nat.reduceAdd,blkOf,oeq_refl,dead_cells,Bool.and_true,Bool.and_self,Bool.false_eq_true,Bool.not_false,gy17,Bool.and_self,Bool.and_true]
      try rfl
     simp only [↓sbD,sbU,tyB,↓reduceIte,Nat.reduceEqDiff,Nat.reduceLT,Nat.reduceAdd,Nat.reduceLeDiff,res_cellc,resC_some]
    ·exact downS_here (hokF _ (by rw [hend]) _ _ ⟨_,_,_,_,_,hv,hwv,.inl ⟨rfl,rfl⟩,.inl ⟨rfl,rfl⟩,.inl ⟨rfl,rfl⟩,by first | (simp only [pkC,coP,pkz,du,dp]; done) | (simp only [pkC,coP,pkz,du,dp]; rfl) | (simp only [pkC,coP,pkz,du,dp,← hpw]; done) | (simp only [pkC,coP,pkz,du,dp,← hpw]; rfl)⟩ ((K2.trans M17).setD hb))
    ·exact downS_here (hbadF k 129 q (by rw [hend]) _ d z (coP n kp l cl W us pw) _ ⟨_,_,_,_,_,hv,hwv,.inl ⟨rfl,rfl⟩,.inl ⟨rfl,rfl⟩,.inl ⟨rfl,rfl⟩,by first | (simp only [pkC,coP,pkz,du,dp]; done) | (simp only [pkC,coP,pkz,du,dp]; rfl) | (simp only [pkC,coP,pkz,du,dp,← hpw]; done) | (simp only [pkC,coP,pkz,du,dp,← hpw]; rfl)⟩ ((K2.trans M17).setD hb) (by omega) he)
theorem specKoDec {f : Int} (hs : s.size ≤ 100000000)
  (hok : ∀ p,DecK f s (.ok p) → ∀ v σ',PkV p v → Kept σ [] σ' [] → Q (.tuple #[v,.nilIface]) σ')
  (hbad : ∀ k rr a : Nat,DecK f s (.error (k,rr,a)) → ∀ σ' d z,Kept σ [] σ' [] → d ≤ 3 → ErN d (fv rr a z) k → Q (.tuple #[.agg ⟨zeL⟩,fv rr a z]) σ') :
  CallS E B 21 [.agg ⟨[.int .i64 f,.string s]⟩] σ Q := by
 unfold DecK at hok hbad
 refine call21 (by simp) ?_
 simp only [strip,bodyOf,Tryz.f21,getD_body,keepN,bareOp_mk,List.map_cons,List.map_nil,↓reduceIte,Bool.false_eq_true]
 by_cases h1 : f = 16
 rotate_left
 ·simp only [if_pos (show f ≠ 16 from h1)] at hbad
  simp only [↓sbD,sbU,tyB,↓reduceIte,Nat.reduceEqDiff,Nat.reduceLT,reduceCtorEq,pairs,isConst,boxS,Edp,dpv,ZV.val,AS_new,zePk,h1,gk2]
  intro b hb
  refine specNew (n := 2) ⟨by omega,by omega⟩ ?_
  simp only [↓sbD,sbU,tyB,↓reduceIte,Nat.reduceEqDiff,Nat.reduceLT,Nat.reduceAdd,Nat.reduceLeDiff,splice,res_cellc,resC_some]
  exact downS_here (hbad 2 129 0 rfl _ 1 _ (((Kept.refl σ []).setD hb).setD hb) (by omega) (ErN.new _ _ ⟨by omega,by omega⟩))
 simp only [if_neg (show ¬ f ≠ 16 from fun h => h h1)] at hok hbad
 simp only [↓sbD,sbU,tyB,decide_false,↓reduceIte,Nat.reduceEqDiff,Nat.reduceLT,reduceCtorEq,isConst,boxS,Edp,dpv,AS_new,zePk,h1]
 intro b hb
 generalize hσ1 : AHeap.set σ b _ = σ1
 have k1 : Kept σ [] σ1 [] := by rw [← hσ1]; exact (Kept.refl σ []).setD hb
 have gb1 : σ1.get b = .cells zeL true 0 := by rw [← hσ1]; exact AHeap.get_set_same _ _ _
 clear hσ1
 refine specRNew fun x σ2 hx k2 i2 => ?_
 have r2 : IsRS σ2 x s (.ok 0) := ⟨Nat.zero_le _,i2⟩
 simp only [↓sbD,sbU,↓reduceIte,Nat.reduceLT]
 refine specKoHead r2 hs (fun n p hh σ3 k3 r3 => ?_) fun k rr a hh σ3 d z n k3 hd he => ?_
 rotate_left
 ·have K3 := k2.trans k3
  have gb3 := (K3.at gb1 (by simp) (by simp)).1
  simp only [zeL,pkC,pkz] at gb3
  have T3 := k1.trans (K3.wid (gp := []) (gp' := []) (fun _ h => by cases h) (fun _ h => by cases h))
  rw [hh] at hbad
  simp only [↓sbD,sbU,tyB,↓reduceIte,Nat.reduceEqDiff,Nat.reduceLT,Nat.reduceAdd,Nat.reduceLeDiff,pairs,isConst,splice,ZV.val,gb3,res_cellc,resC_some]
  exact downS_here (hbad k rr a rfl _ d z (T3.setD hb) hd he)
 have K3 := k2.trans k3
 have gb3 := (K3.at gb1 (by simp) (by simp)).1
 simp only [zeL,pkC,pkz] at gb3
 have T3 := k1.trans (K3.wid (gp := []) (gp' := []) (fun _ h => by cases h) (fun _ h => by cases h))
 rw [hh] at hok hbad
 simp only at hok hbad
 simp only [↓sbD,sbU,tyB,↓reduceIte,Nat.reduceEqDiff,Nat.reduceLT,isConst]
 refine specKoBody r3 (headS_ok hh).1 hs (fun p hB v σ4 hv k4 => ?_) fun k rr a hB σ4 d z p v hv k4 hd he => ?_
 all_goals
  have K4 := K3.trans k4
  have gb4 := (K4.at gb1 (by simp) (by simp)).1
  simp only [zeL,pkC,pkz] at gb4
  have T4 := k1.trans (K4.wid (gp := []) (gp' := []) (fun _ h => by cases h) (fun _ h => by cases h))
  obtain ⟨ua,ub,uc,ud,ue,e1,e2,e3,e4,e5,rfl⟩ := hv
  have c1 := dl_vc e1
  have c2 := dl_vc e2
  have c3 := dl_vc e3
  have c4 := dl_vc e4
  have c5 := dl_vc e5
  simp only [pkC]
  simp only [↓sbD,sbU,tyB,↓reduceIte,Nat.reduceEqDiff,Nat.reduceLT,Nat.reduceAdd,Nat.reduceLeDiff,splice,AS_new,zePk]
  intro g hg
  have hgb : g ≠ b := nd hg gb4 (by simp)
  have gb' : ∀ (τ : AHeap) o,(AHeap.set τ g o).get b = τ.get b := fun τ o => AHeap.get_set_ne _ _ hgb
  have bg' : ∀ (τ : AHeap) o,(AHeap.set τ b o).get g = τ.get g := fun τ o => AHeap.get_set_ne _ _ hgb.symm
  try simp only [↓sbD,sbU,tyB,Nat.reduceMul,Nat.reduceSub,Int.reduceEq,Int.reduceLT,Int.reduceLE,Int.reduceNe,Nat.reduceBneDiff,Nat.reduceBEq,decide_false,gt_iff_lt,Bool.or_self,Bool.false_eq_true,Nat.mul_one,Nat.one_mul,Nat.zero_mul,↓reduceIte,Nat.reduceEqDiff,Nat.reduceLT,Nat.reduceAdd,Nat.reduceLeDiff,reduceCtorEq,goInt,pairs,isConst,TI.isAgg,splice,boxS,Edp,dpv,Nat.beq_eq,ZV.val,List.any_cons,List.any_nil,Bool.false_and,AHeap.get_set_same,VCS]
  have T5 := (T4.trans (((Kept.refl σ4 []).setD (o := .cells [.int .i64 0,.int .i64 0,.int .i64 0,.slice none 0 0,.bool false,.int .i64 0,.string emp,.bool false,.string emp,.string emp,.int .i64 0,.bool false,.slice none 0 0,.bool false,.string emp,.bool false,.string emp,.bool false,.string emp,.string emp,.int .i64 0,.bool false,.bool false,.slice none 0 0,.slice none 0 0,.slice none 0 0] true 0) hg).setD (o := .cells (pkC p ua ub uc ud ue) true 0) hg))
  simp only [↓sbD,sbU,tyB,↓reduceIte,Nat.reduceEqDiff,Nat.reduceLT,Nat.reduceAdd,Nat.reduceLeDiff,pairs,isConst,splice,ZV.val,gb',gb4,c1.2,c2.2,c3.2,c4.2,c5.2,res_cellc,resC_some]
 ·exact downS_here (hok p hB _ _ ⟨_,_,_,_,_,e1,e2,e3,e4,e5,rfl⟩ (T5.setD hb))
 ·exact downS_here (hbad k rr a hB _ d z (T5.setD hb) hd he)
end
section
variable {σ : AHeap} {Q : Value → AHeap → Prop} {s : ByteArray}
def wlL (p : Pk) (b : ByteArray) : List Act := if p.will.has then [⟨8,0,b⟩,⟨6,0,p.will.topic⟩,⟨7,0,p.will.pay⟩] else []
def usL (p : Pk) : List Act := if p.hasU then [⟨6,0,p.user⟩] else []
def paL (p : Pk) : List Act := if p.hasP then [⟨7,0,p.pass⟩] else []
theorem actsK_run {p : Pk} {a b : ByteArray} : stepW (stepW (stepW (stepW (runW emp []) [⟨6,0,mqtt⟩,⟨1,5,emp⟩,⟨1,flagsI p,emp⟩,⟨2,p.keep,emp⟩,⟨8,0,a⟩,⟨6,0,p.client⟩]) (wlL p b)) (usL p)) (paL p) = runW emp (actsK p (a,b)) := by
 rw [stepW_app,stepW_app,stepW_app]
 rfl
theorem specKoEnc {p : Pk} {v : Value} (hp : PkV p v) (hm : bigPk p)
  (hok : ∀ fb,EncK p (.ok fb) → ∀ σ',Kept σ [] σ' [] → Q (.tuple #[.agg ⟨[.int .i64 fb.1,.string fb.2]⟩,.nilIface]) σ')
  (hbad : ∀ k rr a : Nat,EncK p (.error (k,rr,a)) → ∀ σ' d z,Kept σ [] σ' [] → d ≤ 3 → ErN d (fv rr a z) k → Q (.tuple #[.agg ⟨[.int .i64 0,.string emp]⟩,fv rr a z]) σ') :
  CallS E B 20 [v] σ Q := by
 obtain ⟨vp,vw,vs,vf,vc,d1,d2,d3,d4,d5,rfl⟩ := hp
 obtain ⟨up,uw,us,uf,uc,d1,d2,d3,d4,d5,-,hbx⟩ := boxPk d1 d2 d3 d4 d5
 simp only [pkC] at hbx ⊢
 have eml : (emp).size = 0 := rfl
 unfold EncK EncG at hok hbad
 have h5 := hm.client
 have h6 := hm.user
 have h7 := hm.pass
 have hpv : PkV p (.agg ⟨pkC p up uw us uf uc⟩) := ⟨_,_,_,_,_,d1,d2,d3,d4,d5,rfl⟩
 simp only [pkC] at hpv
 by_cases hq : p.will.has = true ∧ (p.will.qos < 0 ∨ 3 < p.will.qos)
 ·have hpre : preK p = some (2,129,0) := if_pos hq
  have hw := hq.1
  simp only [hpre] at hbad
  have OUT : ∀ {P : Prop},(p.will.qos < 0 → P) → (¬ p.will.qos < 0 → 3 < p.will.qos → P) → P := fun a b => by
   by_cases h : p.will.qos < 0
   ·exact a h
   ·exact b h (hq.2.resolve_left h)
  simp only [hw] at hbx ⊢
  refine call20 (by simp) ?_
  simp only [strip,bodyOf,Tryz.f20,getD_body,keepN,bareOp_mk,lapp_cons,lapp_nil,List.map_cons,List.map_nil,↓reduceIte,Bool.false_eq_true]
  refine OUT (fun q1 => ?_) fun q1 q2 => ?_
  focus simp only [↓sbD,sbU,tyB,↓reduceIte,Nat.reduceEqDiff,Nat.reduceLT,reduceCtorEq,pairs,isConst,ZV.val,hbx,AS_new,zeFra,q1,gk2]
  rotate_left
  focus simp only [↓sbD,sbU,tyB,decide_false,↓reduceIte,Nat.reduceEqDiff,Nat.reduceLT,reduceCtorEq,pairs,isConst,ZV.val,hbx,AS_new,zeFra,q1,q2,gk2]
  all_goals
   intro b hb
   refine specNew (n := 2) ⟨by omega,by omega⟩ ?_
   simp only [↓sbD,sbU,tyB,↓reduceIte,Nat.reduceEqDiff,Nat.reduceLT,Nat.reduceAdd,Nat.reduceLeDiff,splice,res_cellc,resC_some]
   exact downS_here (hbad 2 129 0 rfl _ 1 _ (((Kept.refl σ []).setD hb).setD hb) (by omega) (ErN.new _ _ ⟨by omega,by omega⟩))
 have hpre : preK p = none := if_neg hq
 simp only [hpre] at hok hbad
 have hqq : p.will.has = true → ¬ (p.will.qos < 0 ∨ 3 < p.will.qos) := fun h1 h2 => hq ⟨h1,h2⟩
 have ALT : ∀ {P : Prop},(p.will.has = false → P) → (p.will.has = true → ¬ p.will.qos < 0 → ¬ 3 < p.will.qos → P) → P := fun a b => by
  cases hw : p.will.has with
  | false => exact a hw
  | true => exact b hw (fun h => hqq hw (.inl h)) (fun h => hqq hw (.inr h))
 refine ALT (fun hwa => ?_) fun hwa q1 q2 => ?_
 focus
  simp only [hwa] at hbx hpv ⊢
  refine call20 (by simp) ?_
  simp only [strip,bodyOf,Tryz.f20,getD_body,keepN,bareOp_mk,lapp_cons,lapp_nil,List.map_cons,List.map_nil,↓reduceIte,Bool.false_eq_true]
  simp only [↓sbD,sbU,tyB,↓reduceIte,Nat.reduceEqDiff,Nat.reduceLT,Nat.reduceAdd,Nat.reduceLeDiff,reduceCtorEq,hbx,AS_new,zeFra]
 rotate_left
 focus
  simp only [hwa] at hbx hpv ⊢
  refine call20 (by simp) ?_
  simp only [strip,bodyOf,Tryz.f20,getD_body,keepN,bareOp_mk,lapp_cons,lapp_nil,List.map_cons,List.map_nil,↓reduceIte,Bool.false_eq_true]
  simp only [↓sbD,sbU,tyB,decide_false,↓reduceIte,Nat.reduceEqDiff,Nat.reduceLT,Nat.reduceAdd,Nat.reduceLeDiff,reduceCtorEq,isConst,hbx,AS_new,zeFra,q1,q2]
 all_goals
  intro b hb
  generalize hσ1 : AHeap.set σ b _ = σ1
  have k1 : Kept σ [] σ1 [] := by rw [← hσ1]; exact (Kept.refl σ []).setD hb
  have gb1 : σ1.get b = .cells [.int .i64 0,.string emp] true 0 := by rw [← hσ1]; exact AHeap.get_set_same _ _ _
  clear hσ1
  refine specParts hpv hm (fun a b' hce za zb => ?_) fun k r a d z c1 c2 hce hd he => ?_
  rotate_left
  ·simp only [hce] at hbad
   simp only [↓sbD,sbU,tyB,↓reduceIte,Nat.reduceEqDiff,Nat.reduceLT,Nat.reduceAdd,Nat.reduceLeDiff,pairs,isConst,splice,ZV.val,gb1,res_cellc,resC_some]
   exact downS_here (hbad k r a rfl _ d z (k1.setD hb) (by omega) he)
  simp only [hce] at hok hbad
  simp only [↓sbD,sbU,tyB,Bool.false_eq_true,↓reduceIte,Nat.reduceEqDiff,Nat.reduceLT,pairs,isConst,boxS,Edp,ZV.val,Bool.false_and,AS_new,dpW]
  intro w hw
  have hwb : w ≠ b := nd hw gb1 (by simp)
  generalize hσ2 : AHeap.set σ1 w _ = σ2
  have gw : σ2.get w = .cells [.slice none 0 0,.nilIface] true 0 := by rw [← hσ2]; exact AHeap.get_set_same _ _ _
  have k2 : Kept σ1 [] σ2 [w] := by rw [← hσ2]; exact Kept.new' hw
  have w2 : WRun σ2 w (runW emp []) [w] := ⟨_,[],gw,.inl ⟨rfl,rfl,rfl⟩,rfl,by simp⟩
  have z2 : leW (runW emp []) 0 := fun b hb => by injection hb with hb; subst hb; exact Nat.le_refl _
  clear gw hσ2
  refine specTextR (n := 0) (s := mqtt) w2 (fun b hb => by have := z2 b hb; omega) (by decide) fun σ3 fp3 k3 w3 => ?_
  have z3 := leW_step (a := ⟨6,0,mqtt⟩) z2
  have e3 : mqtt.size = 4 := rfl
  simp only [e3] at z3
  simp only [↓sbD,sbU,↓reduceIte,Nat.reduceEqDiff,Nat.reduceLT]
  refine specU8R (s := emp) w3 (fun b hb => by have := z3 b hb; omega) fun σ4 fp4 k4 w4 => ?_
  have z4 := leW_step (a := ⟨1,5,emp⟩) z3
  simp only [eml] at z4
  simp only [↓sbD,sbU,tyB,↓reduceIte,Nat.reduceEqDiff,Nat.reduceLT,Nat.reduceAdd,Nat.reduceLeDiff]
  refine specFlags hpv hqq ?_
  simp only [↓sbD,sbU,↓reduceIte,Nat.reduceEqDiff,Nat.reduceLT]
  refine specU8R (s := emp) w4 (fun b hb => by have := z4 b hb; omega) fun σ5 fp5 k5 w5 => ?_
  have z5 := leW_step (a := ⟨1,flagsI p,emp⟩) z4
  simp only [eml] at z5
  simp only [↓sbD,sbU,tyB,↓reduceIte,Nat.reduceEqDiff,Nat.reduceLT,reduceCtorEq]
  refine specU16R (s := emp) w5 (fun b hb => by have := z5 b hb; omega) fun σ6 fp6 k6 w6 => ?_
  have z6 := leW_step (a := ⟨2,p.keep,emp⟩) z5
  simp only [eml] at z6
  simp only [↓sbD,sbU,↓reduceIte,Nat.reduceEqDiff,Nat.reduceLT]
  refine specRawR (n := 0) w6 (fun b hb => by have := z6 b hb; omega) (by omega) fun σ7 fp7 k7 w7 => ?_
  have z7 := leW_step (a := ⟨8,0,a⟩) z6
  simp only at z7
  simp only [↓sbD,sbU,tyB,↓reduceIte,Nat.reduceEqDiff,Nat.reduceLT,reduceCtorEq]
  refine specTextR (n := 0) w7 (fun b hb => by have := z7 b hb; omega) (by omega) fun σ8 fp8 k8 w8 => ?_
  have z8 := leW_step (a := ⟨6,0,p.client⟩) z7
  simp only at z8
  have hR : stepW (stepW (stepW (stepW (stepW (stepW (runW emp []) [⟨6,0,mqtt⟩]) [⟨1,5,emp⟩]) [⟨1,flagsI p,emp⟩]) [⟨2,p.keep,emp⟩]) [⟨8,0,a⟩]) [⟨6,0,p.client⟩] = stepW (runW emp []) [⟨6,0,mqtt⟩,⟨1,5,emp⟩,⟨1,flagsI p,emp⟩,⟨2,p.keep,emp⟩,⟨8,0,a⟩,⟨6,0,p.client⟩] := by rw [stepW_app,stepW_app,stepW_app,stepW_app,stepW_app]; rfl
  rw [hR] at w8 z8
  have hRR := actsK_run (p := p) (a := a) (b := b')
  generalize stepW (runW emp []) [⟨6,0,mqtt⟩,⟨1,5,emp⟩,⟨1,flagsI p,emp⟩,⟨2,p.keep,emp⟩,⟨8,0,a⟩,⟨6,0,p.client⟩] = R8 at w8 z8 hRR
  have K8 := k2.trans (k3.trans (k4.trans (k5.trans (k6.trans (k7.trans k8)))))
  clear hR w7 w6 w5 w4 w3 z7 z6 z5 z4 z3 k3 k4 k5 k6 k7 k8
  simp only [↓sbD,sbU,tyB,↓reduceIte,Nat.reduceEqDiff,Nat.reduceLT,Nat.reduceAdd,Nat.reduceLeDiff,reduceCtorEq]
  first
   | refine specLast (l := { p.will with has := true }) (n := 700000 + 5000) w8 d2 (fun b hb => by have := z8 b hb; omega) (by omega) zb hm.wtopic hm.wpay fun σ9 fp9 k9 w9' z9' => ?_
   | refine specLast (l := { p.will with has := false }) (n := 700000 + 5000) w8 d2 (fun b hb => by have := z8 b hb; omega) (by omega) zb hm.wtopic hm.wpay fun σ9 fp9 k9 w9' z9' => ?_
  obtain ⟨R9,hR9⟩ : ∃ R,R = stepW R8 (wlL p b') := ⟨_,rfl⟩
  have w9 : WRun σ9 w R9 fp9 := by rw [hR9]; unfold wlL; rw [hwa]; exact w9'
  have z9 : leW R9 (700000 + 5000 + b'.size + 5000) := by rw [hR9]; unfold wlL; rw [hwa]; exact z9'
  rw [← hR9] at hRR
  clear w9' z9' hR9
  have K9 := K8.trans k9
  have hz9 : leW R9 1410000 := fun b hb => by have := z9 b hb; omega
  have huc : p.hasU = false ∨ p.hasU = true := by cases p.hasU <;> simp
  rcases huc with hu | hu
  focus
   simp only [↓sbD,sbU,tyB,↓reduceIte,Nat.reduceEqDiff,Nat.reduceLT,reduceCtorEq,hu]
   have hL : usL p = [] := by unfold usL; rw [hu]; rfl
   rw [hL,stepW_nil] at hRR
   obtain ⟨σ10,rfl⟩ : ∃ τ,τ = σ9 := ⟨_,rfl⟩
   have w10 := w9
   have K10 := K9
   have z10 : leW R9 1420000 := fun b hb => by have := hz9 b hb; omega
   generalize R9 = R10 at w10 z10 hRR
  rotate_left
  focus
   simp only [↓sbD,sbU,tyB,↓reduceIte,Nat.reduceEqDiff,Nat.reduceLT,reduceCtorEq,hu]
   refine specTextR (n := 0) w9 (fun b hb => by have := hz9 b hb; omega) (by omega) fun σ10 fp10 k10 w10 => ?_
   have z10' := leW_step (a := ⟨6,0,p.user⟩) hz9
   simp only at z10'
   have hL : usL p = [⟨6,0,p.user⟩] := by unfold usL; rw [hu]; rfl
   rw [hL] at hRR
   have z10 : leW (stepW R9 [⟨6,0,p.user⟩]) 1420000 := fun b hb => by have := z10' b hb; omega
   have K10 := K9.trans k10
   generalize stepW R9 [⟨6,0,p.user⟩] = R10 at w10 z10 hRR
  rotate_left
  all_goals
   have hpc : p.hasP = false ∨ p.hasP = true := by cases p.hasP <;> simp
   rcases hpc with hp' | hp'
   focus
    simp only [↓sbD,sbU,tyB,↓reduceIte,Nat.reduceEqDiff,Nat.reduceLT,reduceCtorEq,hp']
    have hL : paL p = [] := by unfold paL; rw [hp']; rfl
    rw [hL,stepW_nil] at hRR
    obtain ⟨σ11,rfl⟩ : ∃ τ,τ = σ10 := ⟨_,rfl⟩
    have w11 := w10
    have K11 := K10
    have z11 : leW R10 1430000 := fun b hb => by have := z10 b hb; omega
    rw [hRR] at w11 z11
   rotate_left
   focus
    simp only [↓sbD,sbU,tyB,↓reduceIte,Nat.reduceEqDiff,Nat.reduceLT,reduceCtorEq,hp']
    refine specBinR (n := 0) w10 (fun b hb => by have := z10 b hb; omega) (by omega) fun σ11 fp11 k11 w11 => ?_
    have z11' := leW_step (a := ⟨7,0,p.pass⟩) z10
    simp only at z11'
    have hL : paL p = [⟨7,0,p.pass⟩] := by unfold paL; rw [hp']; rfl
    rw [hL] at hRR
    rw [hRR] at w11 z11'
    have z11 : leW (runW emp (actsK p (a,b'))) 1430000 := fun b hb => by have := z11' b hb; omega
    have K11 := K10.trans k11
   rotate_left
   all_goals
    try simp only [↓sbD,sbU,↓reduceIte,Nat.reduceEqDiff,Nat.reduceLT]
    refine specBytesR w11 (fun bb hbb => ?_) fun k q d z hr hd he => ?_
    ·have gbn := (K11.at gb1 (by simp) (by simp)).1
     have hle := z11 bb hbb
     simp only [↓sbD,sbU,tyB,↓reduceIte,Nat.reduceEqDiff,Nat.reduceLT,Nat.reduceAdd,Nat.reduceLeDiff,pairs,isConst,splice,ZV.val,AS_new,zeFra]
     intro c hc
     have hcb : c ≠ b := nd hc gbn (by simp)
     generalize hσc : AHeap.set _ c _ = σc
     have kc : Kept σ11 [] σc [] := by rw [← hσc]; exact ((Kept.refl _ []).setD hc).setD hc
     have gc : σc.get c = .cells [.int .i64 (16),.string bb] true 0 := by rw [← hσc]; exact AHeap.get_set_same _ _ _
     clear hσc
     try simp only [↓sbD,sbU,tyB,Nat.reduceMul,Nat.reduceSub,Int.reduceEq,Int.reduceLT,Int.reduceLE,Int.reduceNe,Nat.reduceBneDiff,Nat.reduceBEq,decide_false,gt_iff_lt,Bool.or_self,Bool.false_eq_true,Nat.mul_one,Nat.one_mul,Nat.zero_mul,↓reduceIte,Nat.reduceEqDiff,Nat.reduceLT,Nat.reduceAdd,Nat.reduceLeDiff,reduceCtorEq,goInt,pairs,isConst,TI.isAgg,splice,boxS,Edp,dpv,Nat.beq_eq,ZV.val,List.any_cons,List.any_nil,Bool.false_and,gc]
     refine specKoDec (by omega) (fun y hy v2 σd hv2 kd => ?_) fun k rr a hy σd d z kd hd he => ?_
     ·have gbd := ((kc.trans kd).at gbn (by simp) (by simp)).1
      have gcd := (kd.at gc (by simp) (by simp)).1
      simp only [↓sbD,sbU,tyB,↓reduceIte,Nat.reduceEqDiff,Nat.reduceLT,Nat.reduceAdd,Nat.reduceLeDiff,isConst,splice,gcd,gbd,res_cellc,resC_some]
      exact downS_here (hok (16,bb) (by unfold MadeR; rw [hbb]; exact ⟨_,hy,rfl⟩) _ ((k1.trans ((K11.wid (gp := []) (gp' := []) (fun _ h => by cases h) (fun _ h => by cases h)).trans (kc.trans kd))).setD hb))
     ·have gbd := ((kc.trans kd).at gbn (by simp) (by simp)).1
      simp only [↓sbD,sbU,tyB,↓reduceIte,Nat.reduceEqDiff,Nat.reduceLT,Nat.reduceAdd,Nat.reduceLeDiff,pairs,isConst,splice,ZV.val,gbd,res_cellc,resC_some]
      exact downS_here (hbad k rr a (by unfold MadeR; rw [hbb]; exact ⟨_,hy,rfl⟩) _ d z ((k1.trans ((K11.wid (gp := []) (gp' := []) (fun _ h => by cases h) (fun _ h => by cases h)).trans (kc.trans kd))).setD hb) hd he)
    ·have gbn := (K11.at gb1 (by simp) (by simp)).1
     simp only [↓sbD,sbU,tyB,↓reduceIte,Nat.reduceEqDiff,Nat.reduceLT,Nat.reduceAdd,Nat.reduceLeDiff,pairs,isConst,splice,ZV.val,AS_new,zeFra]
     intro c hc
     have hcb : c ≠ b := nd hc gbn (by simp)
     have bc : ∀ (τ : AHeap) o,(AHeap.set τ c o).get b = τ.get b := fun τ o => AHeap.get_set_ne _ _ hcb
     simp only [↓sbD,sbU,tyB,↓reduceIte,Nat.reduceEqDiff,Nat.reduceLT,Nat.reduceAdd,Nat.reduceLeDiff,splice,bc,gbn,res_cellc,resC_some]
     exact downS_here (hbad k 129 q (by unfold MadeR; rw [hr]) _ d z ((k1.trans ((K11.wid (gp := []) (gp' := []) (fun _ h => by cases h) (fun _ h => by cases h)).trans (((Kept.refl _ []).setD hc).setD hc))).setD hb) (by omega) he)
end
section
variable {σ : AHeap} {Q : Value → AHeap → Prop} {s : ByteArray}
theorem catW_sz {l : List Act} {c : ByteArray} (h : catW l = some c) : c.size ≤ (l.map fun a => a.s.size + 4).sum := by
 have h1 := catW_run emp h
 have h2 := runW_le l emp _ 0 (Nat.le_refl _) h1
 rw [emp_app'] at h2
 omega
theorem encK_size {p : Pk} {fb : Int × ByteArray} (h : EncK p (.ok fb)) (hf : fewPk p) : fb.2.size ≤ 100000 := by
 obtain ⟨h0,s,b,y,h1,h2,rfl,h4⟩ := h.inv
 have hz := catW_sz h2
 have he0 : emp.size = 0 := rfl
 show b.size ≤ 100000
 obtain ⟨s1,s2⟩ := s
 have hs : s1.size ≤ 28844 ∧ s2.size ≤ 28844 := by
  unfold propsK at h1
  cases g1 : encP 1 p.props with
  | error e => rw [g1] at h1; cases h1
  | ok a =>
   rw [g1] at h1
   simp only at h1
   split at h1
   ·cases g2 : encP 16 p.will.props with
    | error e => rw [g2] at h1; cases h1
    | ok c =>
     rw [g2] at h1
     simp only [Except.ok.injEq,Prod.mk.injEq] at h1
     obtain ⟨rfl,rfl⟩ := h1
     exact ⟨encP_size hf.props g1,encP_size hf.wprops g2⟩
   ·simp only [Except.ok.injEq,Prod.mk.injEq] at h1
    obtain ⟨rfl,rfl⟩ := h1
    exact ⟨encP_size hf.props g1,Nat.zero_le _⟩
 have hm0 : mqtt.size = 4 := rfl
 have := hf.client
 have := hf.user
 have := hf.pass
 have := hf.wtopic
 have := hf.wpay
 unfold actsK at hz
 simp only [List.map_append,List.sum_append,List.map_cons,List.map_nil,List.sum_cons,List.sum_nil,he0,hm0] at hz
 have w1 : ((if p.will.has = true then [(⟨8,0,s2⟩ : Act),⟨6,0,p.will.topic⟩,⟨7,0,p.will.pay⟩] else []).map fun a => a.s.size + 4).sum ≤ 40000 := by
  split
  ·simp only [List.map_cons,List.map_nil,List.sum_cons,List.sum_nil]; omega
  ·simp
 have w2 : ((if p.hasU = true then [(⟨6,0,p.user⟩ : Act)] else []).map fun a => a.s.size + 4).sum ≤ 4000 := by
  split
  ·simp only [List.map_cons,List.map_nil,List.sum_cons,List.sum_nil]; omega
  ·simp
 have w3 : ((if p.hasP = true then [(⟨7,0,p.pass⟩ : Act)] else []).map fun a => a.s.size + 4).sum ≤ 4000 := by
  split
  ·simp only [List.map_cons,List.map_nil,List.sum_cons,List.sum_nil]; omega
  ·simp
 omega
theorem specBare08 {p : Pk} {v : Value} (hp : PkV p v) (hs : p.props.length ≤ 1000) (hsw : p.will.props.length ≤ 1000) (hq : ∀ w σ',PkV (coB p) w → Kept σ [] σ' [] → Q w σ') : CallS E B 22 [v] σ Q := by
 obtain ⟨vp,vw,vs,vf,vc,d1,d2,d3,d4,d5,rfl⟩ := hp
 obtain ⟨up,uw,us,uf,uc,d1,d2,d3,d4,d5,_,hbx⟩ := boxPk d1 d2 d3 d4 d5
 simp only [pkC] at hbx ⊢
 obtain ⟨vw0,e0,hsw0,hw0⟩ : ∃ vw0,DL propC 4 vw0 (if p.will.has then p.will.props else []) ∧ (if p.will.has then p.will.props else []).length ≤ 1000 ∧ vw0 = (if p.will.has then uw else .slice none 0 0) := by
  refine ⟨_,?_,?_,rfl⟩
  ·split
   ·exact d2
   ·exact .inl ⟨rfl,rfl⟩
  ·split
   ·exact hsw
   ·exact Nat.zero_le _
 have hWP : (coB p).will.props = (if p.will.has then p.will.props else []).map plainP := by unfold coB; cases p.will.has <;> rfl
 have hvu := dl_vc d1
 have hvw := dl_vc d2
 have c1 : p.will.has = false ∨ p.will.has = true := by cases p.will.has <;> simp
 have c2 : p.hasU = false ∨ p.hasU = true := by cases p.hasU <;> simp
 have c3 : p.hasP = false ∨ p.hasP = true := by cases p.hasP <;> simp
 have hpl : (coB p).props = p.props.map plainP := rfl
 have hcell : ∀ w1 w2 : Value,Value.agg ⟨pkC (coB p) w1 w2 (.slice none 0 0) (.slice none 0 0) (.slice none 0 0)⟩ = .agg ⟨[.int .i64 1,.int .i64 0,.int .i64 0,w1,.bool p.clean,.int .i64 p.keep,.string p.client,.bool (coB p).will.has,.string (coB p).will.topic,.string (coB p).will.pay,.int .i64 (coB p).will.qos,.bool (coB p).will.ret,w2,.bool p.hasU,.string (coB p).user,.bool p.hasP,.string (coB p).pass,.bool false,.string emp,.string emp,.int .i64 0,.bool false,.bool false,.slice none 0 0,.slice none 0 0,.slice none 0 0]⟩ := fun _ _ => rfl
 rcases c1 with h1 | h1 <;> rcases c2 with h2 | h2 <;> rcases c3 with h3 | h3
 all_goals
  simp only [h1,if_true,if_false,Bool.false_eq_true] at e0 hw0 hsw0 hWP
  subst hw0
  simp only [h1,h2,h3] at hbx
  have t1 : (coB p).user = if p.hasU then p.user else emp := rfl
  have t2 : (coB p).pass = if p.hasP then p.pass else emp := rfl
  have t4 : (coB p).will.has = p.will.has := by unfold coB; cases hh : p.will.has <;> simp [wlz,hh]
  have t5 : (coB p).will.topic = if p.will.has = true then p.will.topic else emp := by unfold coB; cases hh : p.will.has <;> simp [wlz]
  have t6 : (coB p).will.pay = if p.will.has = true then p.will.pay else emp := by unfold coB; cases hh : p.will.has <;> simp [wlz]
  have t7 : (coB p).will.qos = if p.will.has = true then p.will.qos else 0 := by unfold coB; cases hh : p.will.has <;> simp [wlz]
  have t8 : (coB p).will.ret = if p.will.has = true then p.will.ret else false := by unfold coB; cases hh : p.will.has <;> simp [wlz]
  rw [h2] at t1
  rw [h3] at t2
  rw [h1] at t4 t5 t6 t7 t8
  simp only [if_true,if_false,Bool.false_eq_true] at t1 t2 t5 t6 t7 t8
  simp only [h1,h2,h3]
  refine call22 (by simp) ?_
  simp only [strip,bodyOf,Tryz.f22,getD_body,keepN,bareOp_mk,List.map_cons,List.map_nil,↓reduceIte,Bool.false_eq_true]
  simp only [↓sbD,sbU,tyB,↓reduceIte,Nat.reduceEqDiff,Nat.reduceLT,Nat.reduceAdd,Nat.reduceLeDiff,reduceCtorEq,pairs,splice,ZV.val,AS_new,zePk,hbx,hvu.1,hvu.2,hvw.2]
  intro b hb d hd
  have hdb : d ≠ b := by rintro rfl; rw [AHeap.get_set_same] at hd; cases hd
  replace hd : σ.get d = .dead := by rw [AHeap.get_set_ne _ _ hdb.symm] at hd; exact hd
  have db : ∀ (τ : AHeap) o,(AHeap.set τ d o).get b = τ.get b := fun τ o => AHeap.get_set_ne _ _ hdb
  have bd : ∀ (τ : AHeap) o,(AHeap.set τ b o).get d = τ.get d := fun τ o => AHeap.get_set_ne _ _ hdb.symm
  try simp only [↓sbD,sbU,tyB,Nat.reduceMul,Nat.reduceSub,Int.reduceEq,Int.reduceLT,Int.reduceLE,Int.reduceNe,Nat.reduceBneDiff,Nat.reduceBEq,decide_false,gt_iff_lt,Bool.or_self,Bool.false_eq_true,Nat.mul_one,Nat.one_mul,Nat.zero_mul,↓reduceIte,Nat.reduceEqDiff,Nat.reduceLT,Nat.reduceAdd,Nat.reduceLeDiff,reduceCtorEq,goInt,pairs,isConst,TI.isAgg,splice,boxS,Edp,dpv,Nat.beq_eq,ZV.val,List.any_cons,List.any_nil,Bool.false_and,AHeap.get_set_same,db,bd,hvu.1,hvu.2,hvw.1,hvw.2,Bool.and_self,Bool.and_true,List.length_cons,List.length_nil,List.cons_append,List.nil_append,List.drop_succ_cons,List.drop_zero,List.set_cons_zero,List.set_cons_succ,decide_true]
  refine specKPlain d1 hs fun w1 σ1 hw1 k1 => ?_
  have v1 := dl_vc hw1
  generalize hσ2 : AHeap.set _ d _ = σ2 at k1
  have K2 : Kept σ [] σ2 [] := by
   rw [← hσ2]
   repeat (first | exact Kept.refl _ _ | refine Kept.setD ?_ hb | refine Kept.setD ?_ hd)
  have gb2 : σ2.get b = .cells [.int .i64 0,.int .i64 0,.int .i64 0,.slice none 0 0,.bool false,.int .i64 0,.string emp,.bool false,.string emp,.string emp,.int .i64 0,.bool false,.slice none 0 0,.bool false,.string emp,.bool false,.string emp,.bool false,.string emp,.string emp,.int .i64 0,.bool false,.bool false,.slice none 0 0,.slice none 0 0,.slice none 0 0] true 0 := by
   rw [← hσ2]
   repeat rw [db]
   exact AHeap.get_set_same _ _ _
  have gd2 := congrArg (fun τ : AHeap => τ.get d) hσ2
  simp only [AHeap.get_set_same] at gd2
  replace gd2 := gd2.symm
  clear hσ2
  have gb3 := (k1.at gb2 (by simp) (by simp)).1
  have gd3 := (k1.at gd2 (by simp) (by simp)).1
  simp only [↓sbD,sbU,tyB,↓reduceIte,Nat.reduceEqDiff,Nat.reduceLT,Nat.reduceAdd,Nat.reduceLeDiff,reduceCtorEq,splice,gd3,v1.1,v1.2]
  refine specKPlain e0 hsw0 fun w2 σ4 hw2 k4 => ?_
  have v2 := dl_vc hw2
  generalize hσ3 : AHeap.set σ1 d _ = σ3 at k4
  have K3 : Kept σ [] σ3 [] := by rw [← hσ3]; exact (K2.trans k1).setD hd
  have gb4 := (k4.at (show σ3.get b = _ from (show σ3.get b = σ1.get b by rw [← hσ3]; exact db _ _).trans gb3) (by simp) (by simp)).1
  have gd5 := congrArg (fun τ : AHeap => τ.get d) hσ3
  simp only [AHeap.get_set_same] at gd5
  have gd4 := (k4.at gd5.symm (by simp) (by simp)).1
  clear hσ3 gd5
  simp only [↓sbD,sbU,tyB,↓reduceIte,Nat.reduceEqDiff,Nat.reduceLT,Nat.reduceAdd,Nat.reduceLeDiff,reduceCtorEq,splice,gd4,gb4,db,v1.2,v2.1,v2.2,res_cellc,resC_some]
  exact downS_here (hq _ _ ⟨_,w2,_,_,_,hw1,by rw [hWP]; exact hw2,.inl ⟨rfl,rfl⟩,.inl ⟨rfl,rfl⟩,.inl ⟨rfl,rfl⟩,by rw [hcell]; simp only [t1,t2,t4,t5,t6,t7,t8,h2,h3]; rfl⟩ (((K3.trans k4).setD hd).setD hb))
end
theorem fraNe {σ : AHeap} {cs : Bool} {f : Int} {a : ByteArray} : abin E σ .neq 33 cs (.agg ⟨[.int .i64 f,.string a]⟩) (.agg ⟨[.int .i64 f,.string a]⟩) = some (.bool false) := by
 have e1 : (a == a) = true := by rw [bytes_dec]; simp
 simp only [abin,nonNum,eqAsk,aeq,aeqs,apart,ty33,ty3,ty9,TI.isAgg,Bool.and_self,Bool.false_eq_true,List.getElem?_cons_zero,List.getElem?_cons_succ,↓reduceIte,beq_self_eq_true,Option.map_some,e1]
 rfl
theorem fraNe0 {σ : AHeap} {cs : Bool} : abin E σ .neq 33 cs (.agg ⟨[.int .i64 0,.string emp]⟩) (.agg ⟨[.int .i64 0,.string ⟨#[]⟩]⟩) = some (.bool false) := fraNe
theorem pk_zero : PkV pkz (.agg ⟨zeL⟩) := ⟨_,_,_,_,_,.inl ⟨rfl,rfl⟩,.inl ⟨rfl,rfl⟩,.inl ⟨rfl,rfl⟩,.inl ⟨rfl,rfl⟩,.inl ⟨rfl,rfl⟩,rfl⟩
theorem law11 {H : AHeap} {vs : List Value} (hB0 : Ext B H) (h : ArgsTyped E H 8 [29,3,9] vs) : CallW E 5 vs H fun r _ => r = .bool true := by
 obtain ⟨u,vs1,rfl,t1,e1⟩ := h.cons'
 obtain ⟨u2,vs2,rfl,t2,e2⟩ := e1.cons'
 obtain ⟨u3,vs3,rfl,t3,e3⟩ := e2.cons'
 obtain rfl := e3.nil'
 obtain ⟨p,hp,_⟩ := typed_pk t1
 obtain ⟨n,rfl⟩ := typed_i t2
 obtain ⟨s,rfl⟩ := typed_s t3
 clear t1 t2 t3 e1 e2 e3 h
 have key : CallS E B 5 [u,.int .i64 n,.string s] .empty fun r _ => r = .bool true := by
  obtain ⟨vp,vw,vs,vf,vc,d1,d2,d3,d4,d5,rfl⟩ := hp
  obtain ⟨up,uw,us,uf,uc,d1,d2,d3,d4,d5,hzz,hbx⟩ := boxPk d1 d2 d3 d4 d5
  have hp : PkV p (.agg ⟨pkC p up uw us uf uc⟩) := ⟨_,_,_,_,_,d1,d2,d3,d4,d5,rfl⟩
  have hfz : ∀ cs,Value.agg ⟨pkC p up uw us uf uc⟩ = .agg ⟨cs⟩ → frzL E.ng E.nb cs = true := fun cs h => by injection h with h; injection h with h; rw [← h]; exact hzz
  clear d1 d2 d3 d4 d5 hzz
  simp only [pkC] at hp hfz hbx ⊢
  refine call5 (by simp) ?_
  simp only [strip,bodyOf,Tryz.f5,getD_body,keepN,bareOp_mk,lessOp_mk,lapp_cons,lapp_nil,List.map_cons,List.map_nil,↓reduceIte,Nat.reduceEqDiff,Bool.false_eq_true]
  simp (disch := first | assumption | simp) only [↓sbD,sbU,tyB,↓reduceIte,Nat.reduceEqDiff,Nat.reduceLT,Nat.reduceAdd,Nat.reduceLeDiff,hbx]
  refine specKFew hp hfz fun few hfew => ?_
  cases few with
  | false =>
   simp (disch := first | assumption | simp) only [↓sbD,sbU,↓reduceIte,Nat.reduceEqDiff,Nat.reduceLT,not_bool]
   refine specS19 ?_
   simp (disch := first | assumption | simp) only [↓sbD,sbU,↓reduceIte,Nat.reduceLT]
   exact downS_here rfl
  | true =>
   have hf := hfew rfl
   have hsm : smallP p.props := ⟨by have := hf.props.1; omega,fun x hx => by have := hf.props.2 x hx; omega⟩
   by_cases hsz : (2048 : Int) < (s.size : Int)
   ·simp (disch := first | assumption | simp) only [↓sbD,sbU,tyB,↓reduceIte,Nat.reduceEqDiff,Nat.reduceLT,goInt,isConst,not_bool,hsz]
    refine specS19 ?_
    simp (disch := first | assumption | simp) only [↓sbD,sbU,↓reduceIte,Nat.reduceLT]
    exact downS_here rfl
   simp (disch := first | assumption | simp) only [↓sbD,sbU,tyB,decide_false,↓reduceIte,Nat.reduceEqDiff,Nat.reduceLT,Nat.reduceAdd,Nat.reduceLeDiff,goInt,isConst,not_bool,hsz]
   refine specKoEnc hp hf.big (fun fb he σ1 k1 => ?_) fun k rr a he σ1 d z k1 hd hn => ?_
   focus
    have hfz2 := encK_size he hf
    simp (disch := first | assumption | simp) only [↓sbD,sbU,tyB,↓reduceIte,Nat.reduceEqDiff,Nat.reduceLT,Nat.reduceAdd,Nat.reduceLeDiff,isConst,splice,AS_new,zeFra]
    intro c hc
    try simp (disch := first | assumption | simp) only [↓sbD,sbU,tyB,Nat.reduceMul,Nat.reduceSub,Int.reduceEq,Int.reduceLT,Int.reduceLE,Int.reduceNe,Nat.reduceBneDiff,Nat.reduceBEq,decide_false,gt_iff_lt,Bool.or_self,Bool.false_eq_true,Nat.mul_one,Nat.one_mul,Nat.zero_mul,↓reduceIte,Nat.reduceEqDiff,Nat.reduceLT,Nat.reduceAdd,Nat.reduceLeDiff,reduceCtorEq,goInt,pairs,isConst,TI.isAgg,splice,boxS,Edp,dpv,Nat.beq_eq,ZV.val,List.any_cons,List.any_nil,Bool.false_and,AHeap.get_set_same]
    generalize hσ2 : AHeap.set (AHeap.set σ1 c _) c _ = σ2
    have gc2 : σ2.get c = .cells [.int .i64 fb.1,.string fb.2] true 0 := by rw [← hσ2]; exact AHeap.get_set_same _ _ _
    clear hσ2
    try simp (disch := first | assumption | simp) only [↓sbD,sbU,tyB,Nat.reduceMul,Nat.reduceSub,Int.reduceEq,Int.reduceLT,Int.reduceLE,Int.reduceNe,Nat.reduceBneDiff,Nat.reduceBEq,decide_false,gt_iff_lt,Bool.or_self,Bool.false_eq_true,Nat.mul_one,Nat.one_mul,Nat.zero_mul,↓reduceIte,Nat.reduceEqDiff,Nat.reduceLT,Nat.reduceAdd,Nat.reduceLeDiff,reduceCtorEq,goInt,pairs,isConst,TI.isAgg,splice,boxS,Edp,dpv,Nat.beq_eq,ZV.val,List.any_cons,List.any_nil,Bool.false_and,gc2]
    refine specKoDec (by omega) (fun y hy v2 σ3 hv2 k3 => ?_) fun k rr a hy σ3 d z k3 hd hn => by cases coBack he hf hy
    have hyy := coBack he hf hy
    simp only [Except.ok.injEq] at hyy
    subst hyy
    obtain ⟨ga,gb,gc,gd,ge,g1,g2,g3,g4,g5,rfl⟩ := hv2
    have hv2 : PkV (coB p) (.agg ⟨pkC (coB p) ga gb gc gd ge⟩) := ⟨_,_,_,_,_,g1,g2,g3,g4,g5,rfl⟩
    have vg1 := dl_vc g1
    have vg2 := dl_vc g2
    have vg3 := dl_vc g3
    have vg4 := dl_vc g4
    have vg5 := dl_vc g5
    simp only [pkC] at hv2 ⊢
    simp (disch := first | assumption | simp) only [↓sbD,sbU,tyB,↓reduceIte,Nat.reduceEqDiff,Nat.reduceLT,Nat.reduceAdd,Nat.reduceLeDiff,isConst,splice,AS_new,zePk,vg1.2,vg2.2,vg3.2,vg4.2,vg5.2]
    intro t ht
    try simp (disch := first | assumption | simp) only [↓sbD,sbU,tyB,Nat.reduceMul,Nat.reduceSub,Int.reduceEq,Int.reduceLT,Int.reduceLE,Int.reduceNe,Nat.reduceBneDiff,Nat.reduceBEq,decide_false,gt_iff_lt,Bool.or_self,Bool.false_eq_true,Nat.mul_one,Nat.one_mul,Nat.zero_mul,↓reduceIte,Nat.reduceEqDiff,Nat.reduceLT,Nat.reduceAdd,Nat.reduceLeDiff,reduceCtorEq,goInt,pairs,isConst,TI.isAgg,splice,boxS,Edp,dpv,Nat.beq_eq,ZV.val,List.any_cons,List.any_nil,Bool.false_and,AHeap.get_set_same,vg1.1,vg1.2,vg2.1,vg2.2,vg3.1,vg3.2,vg4.1,vg4.2,vg5.1,vg5.2,Bool.and_self,Bool.and_true,List.length_cons,List.length_nil,List.cons_append,List.nil_append,List.drop_succ_cons,List.drop_zero,decide_true]
    generalize hσ4 : AHeap.set (AHeap.set σ3 t _) t _ = σ4
    have gt : σ4.get t = .cells [.int .i64 (coB p).kind,.int .i64 (coB p).id,.int .i64 (coB p).rea,ga,.bool (coB p).clean,.int .i64 (coB p).keep,.string (coB p).client,.bool (coB p).will.has,.string (coB p).will.topic,.string (coB p).will.pay,.int .i64 (coB p).will.qos,.bool (coB p).will.ret,gb,.bool (coB p).hasU,.string (coB p).user,.bool (coB p).hasP,.string (coB p).pass,.bool (coB p).present,.string (coB p).topic,.string (coB p).pay,.int .i64 (coB p).qos,.bool (coB p).ret,.bool (coB p).dup,gc,gd,ge] true 0 := by rw [← hσ4]; exact AHeap.get_set_same _ _ _
    clear hσ4
    try simp (disch := first | assumption | simp) only [↓sbD,sbU,tyB,Nat.reduceMul,Nat.reduceSub,Int.reduceEq,Int.reduceLT,Int.reduceLE,Int.reduceNe,Nat.reduceBneDiff,Nat.reduceBEq,decide_false,gt_iff_lt,Bool.or_self,Bool.false_eq_true,Nat.mul_one,Nat.one_mul,Nat.zero_mul,↓reduceIte,Nat.reduceEqDiff,Nat.reduceLT,Nat.reduceAdd,Nat.reduceLeDiff,reduceCtorEq,goInt,pairs,isConst,TI.isAgg,splice,boxS,Edp,dpv,Nat.beq_eq,ZV.val,List.any_cons,List.any_nil,Bool.false_and,gt]
    refine specBare08 hp (by have := hf.props.1; omega) (by have := hf.wprops.1; omega) fun w σ5 hw k5 => ?_
    have gt5 := (k5.at gt (by simp) (by simp)).1
    try simp (disch := first | assumption | simp) only [↓sbD,sbU,↓reduceIte,Nat.reduceEqDiff,Nat.reduceLT]
    refine specKSame (p := (coB p)) hv2 hw (by simp only [coB,List.length_map]; have := hf.props.1; omega) (by rw [show (coB p).will.props = (if p.will.has then p.will.props else []).map plainP by unfold coB; cases p.will.has <;> rfl,List.length_map]; have := hf.wprops.1; split <;> simp <;> omega) (by simp [coB,pkz]) (by simp [coB,pkz]) (by simp [coB,pkz])  ?_
    simp (disch := first | assumption | simp) only [↓sbD,sbU,↓reduceIte,Nat.reduceEqDiff,Nat.reduceLT,not_bool]
    refine drawS_l (fl := [(3,5)]) (by kernel_rfl) ?_ ?_
    rotate_left; simp only [lastP_cc,lastP_one]; rotate_left
    ·simp only [List.all_cons,List.all_nil,floatS,List.getElem?_cons_succ,List.getElem?_cons_zero,List.getElem?_toArray,Region.wanted,Bool.not_false,Bool.or_true,reads,looksWeak,aev_tmp,upd_at,↓reduceIte,Nat.reduceEqDiff,Nat.reduceLT,Nat.reduceAdd,blkOf,oeq_refl,dead_cells,Bool.and_self,Bool.false_eq_true,Bool.not_false,gt,gt5]
     try rfl
    simp (disch := first | assumption | simp) only [↓sbD,sbU,tyB,↓reduceIte,Nat.reduceEqDiff,Nat.reduceLT,Nat.reduceAdd,Nat.reduceLeDiff,pairs,splice,ZV.val]
   rotate_left
   focus
    simp (disch := first | assumption | simp) only [↓sbD,sbU,tyB,Bool.or_self,↓reduceIte,Nat.reduceEqDiff,Nat.reduceLT,Nat.reduceAdd,Nat.reduceLeDiff,pairs,isConst,splice,ZV.val,AS_new,zeFra]
    intro c hc
    try simp (disch := first | assumption | simp) only [↓sbD,sbU,tyB,↓reduceIte,Nat.reduceEqDiff,Nat.reduceLT,Nat.reduceAdd,Nat.reduceLeDiff,pairs,splice,ZV.val,fraNe0]
   all_goals
    refine specKoDec (by omega) (fun p2 hy2 v3 σ6 hv3 k6 => ?_) fun k2 r2 a2 hy2 σ6 d2 z2 k6 hd2 hn2 => ?_
    rotate_left
    ·simp only [zeL,pkC,pkz]
     simp (disch := first | assumption | simp) only [↓sbD,sbU,tyB,↓reduceIte,Nat.reduceEqDiff,Nat.reduceLT,Nat.reduceAdd,Nat.reduceLeDiff,pairs,isConst,splice,ZV.val,AS_new,zePk]
     intro e he2
     try simp (disch := first | assumption | simp) only [↓sbD,sbU,tyB,Nat.reduceMul,Nat.reduceSub,Int.reduceEq,Int.reduceLT,Int.reduceLE,Int.reduceNe,Nat.reduceBneDiff,Nat.reduceBEq,decide_false,gt_iff_lt,Bool.or_self,Bool.false_eq_true,Nat.mul_one,Nat.one_mul,Nat.zero_mul,↓reduceIte,Nat.reduceEqDiff,Nat.reduceLT,Nat.reduceAdd,Nat.reduceLeDiff,reduceCtorEq,goInt,pairs,isConst,TI.isAgg,splice,boxS,Edp,dpv,Nat.beq_eq,ZV.val,List.any_cons,List.any_nil,Bool.false_and,AHeap.get_set_same]
     refine specKSame (p := pkz) pk_zero pk_zero (by decide) (by decide) (by decide) (by decide) (by decide) ?_
     simp (disch := first | assumption | simp) only [↓sbD,sbU,↓reduceIte,Nat.reduceLT]
     refine specS19 ?_
     simp (disch := first | assumption | simp) only [↓sbD,sbU,↓reduceIte,Nat.reduceEqDiff,Nat.reduceLT]
     exact downS_here rfl
    obtain ⟨b,hE,hD2,hsm2,hbz,n2,kp2,l2,cl2,w2,u2,pw2,rfl⟩ := coAgain hy2 (by omega)
    obtain ⟨ma,mb,mc,md,me,m1,m2,m3,m4,m5,rfl⟩ := hv3
    have hv3 : PkV (coP n2 kp2 l2 cl2 w2 u2 pw2) (.agg ⟨pkC (coP n2 kp2 l2 cl2 w2 u2 pw2) ma mb mc md me⟩) := ⟨_,_,_,_,_,m1,m2,m3,m4,m5,rfl⟩
    have vm1 := dl_vc m1
    have vm2 := dl_vc m2
    have vm3 := dl_vc m3
    have vm4 := dl_vc m4
    have vm5 := dl_vc m5
    simp only [pkC] at hv3 ⊢
    simp (disch := first | assumption | simp) only [↓sbD,sbU,tyB,↓reduceIte,Nat.reduceEqDiff,Nat.reduceLT,Nat.reduceAdd,Nat.reduceLeDiff,isConst,splice,AS_new,zePk,vm1.2,vm2.2,vm3.2,vm4.2,vm5.2]
    intro t ht
    try simp (disch := first | assumption | simp) only [↓sbD,sbU,tyB,Nat.reduceMul,Nat.reduceSub,Int.reduceEq,Int.reduceLT,Int.reduceLE,Int.reduceNe,Nat.reduceBneDiff,Nat.reduceBEq,decide_false,gt_iff_lt,Bool.or_self,Bool.false_eq_true,Nat.mul_one,Nat.one_mul,Nat.zero_mul,↓reduceIte,Nat.reduceEqDiff,Nat.reduceLT,Nat.reduceAdd,Nat.reduceLeDiff,reduceCtorEq,goInt,pairs,isConst,TI.isAgg,splice,boxS,Edp,dpv,Nat.beq_eq,ZV.val,List.any_cons,List.any_nil,Bool.false_and,AHeap.get_set_same,vm1.1,vm1.2,vm2.1,vm2.2,vm3.1,vm3.2,vm4.1,vm4.2,vm5.1,vm5.2,Bool.and_self,Bool.and_true,List.length_cons,List.length_nil,List.cons_append,List.nil_append,List.drop_succ_cons,List.drop_zero,decide_true]
    generalize hσ7 : AHeap.set (AHeap.set σ6 t _) t _ = σ7
    have gt : σ7.get t = .cells [.int .i64 (coP n2 kp2 l2 cl2 w2 u2 pw2).kind,.int .i64 (coP n2 kp2 l2 cl2 w2 u2 pw2).id,.int .i64 (coP n2 kp2 l2 cl2 w2 u2 pw2).rea,ma,.bool (coP n2 kp2 l2 cl2 w2 u2 pw2).clean,.int .i64 (coP n2 kp2 l2 cl2 w2 u2 pw2).keep,.string (coP n2 kp2 l2 cl2 w2 u2 pw2).client,.bool (coP n2 kp2 l2 cl2 w2 u2 pw2).will.has,.string (coP n2 kp2 l2 cl2 w2 u2 pw2).will.topic,.string (coP n2 kp2 l2 cl2 w2 u2 pw2).will.pay,.int .i64 (coP n2 kp2 l2 cl2 w2 u2 pw2).will.qos,.bool (coP n2 kp2 l2 cl2 w2 u2 pw2).will.ret,mb,.bool (coP n2 kp2 l2 cl2 w2 u2 pw2).hasU,.string (coP n2 kp2 l2 cl2 w2 u2 pw2).user,.bool (coP n2 kp2 l2 cl2 w2 u2 pw2).hasP,.string (coP n2 kp2 l2 cl2 w2 u2 pw2).pass,.bool (coP n2 kp2 l2 cl2 w2 u2 pw2).present,.string (coP n2 kp2 l2 cl2 w2 u2 pw2).topic,.string (coP n2 kp2 l2 cl2 w2 u2 pw2).pay,.int .i64 (coP n2 kp2 l2 cl2 w2 u2 pw2).qos,.bool (coP n2 kp2 l2 cl2 w2 u2 pw2).ret,.bool (coP n2 kp2 l2 cl2 w2 u2 pw2).dup,mc,md,me] true 0 := by rw [← hσ7]; exact AHeap.get_set_same _ _ _
    clear hσ7
    try simp (disch := first | assumption | simp) only [↓sbD,sbU,tyB,Nat.reduceMul,Nat.reduceSub,Int.reduceEq,Int.reduceLT,Int.reduceLE,Int.reduceNe,Nat.reduceBneDiff,Nat.reduceBEq,decide_false,gt_iff_lt,Bool.or_self,Bool.false_eq_true,Nat.mul_one,Nat.one_mul,Nat.zero_mul,↓reduceIte,Nat.reduceEqDiff,Nat.reduceLT,Nat.reduceAdd,Nat.reduceLeDiff,reduceCtorEq,goInt,pairs,isConst,TI.isAgg,splice,boxS,Edp,dpv,Nat.beq_eq,ZV.val,List.any_cons,List.any_nil,Bool.false_and,gt]
    refine specKoEnc hv3 hsm2 (fun fb2 he2 σ8 k8 => ?_) fun k2 r2 a2 he2 σ8 d2 z2 k8 hd2 hn2 => by cases he2.det hE
    have hfe := he2.det hE
    simp only [Except.ok.injEq] at hfe
    subst hfe
    have gt8 := (k8.at gt (by simp) (by simp)).1
    simp (disch := first | assumption | simp) only [↓sbD,sbU,tyB,↓reduceIte,Nat.reduceEqDiff,Nat.reduceLT,Nat.reduceAdd,Nat.reduceLeDiff,splice,AS_new,zeFra]
    intro c' hc'
    try simp (disch := first | assumption | simp) only [↓sbD,sbU,tyB,Nat.reduceMul,Nat.reduceSub,Int.reduceEq,Int.reduceLT,Int.reduceLE,Int.reduceNe,Nat.reduceBneDiff,Nat.reduceBEq,decide_false,gt_iff_lt,Bool.or_self,Bool.false_eq_true,Nat.mul_one,Nat.one_mul,Nat.zero_mul,↓reduceIte,Nat.reduceEqDiff,Nat.reduceLT,Nat.reduceAdd,Nat.reduceLeDiff,reduceCtorEq,goInt,pairs,isConst,TI.isAgg,splice,boxS,Edp,dpv,Nat.beq_eq,ZV.val,List.any_cons,List.any_nil,Bool.false_and,AHeap.get_set_same]
    generalize hσ9 : AHeap.set (AHeap.set σ8 c' _) c' _ = σ9
    have k9 : Kept σ8 [] σ9 [] := by rw [← hσ9]; exact ((Kept.refl _ []).setD hc').setD hc'
    have gc9 : σ9.get c' = .cells [.int .i64 n,.string b] true 0 := by rw [← hσ9]; exact AHeap.get_set_same _ _ _
    have gt9 := (k9.at gt8 (by simp) (by simp)).1
    clear hσ9
    try simp (disch := first | assumption | simp) only [↓sbD,sbU,tyB,Nat.reduceMul,Nat.reduceSub,Int.reduceEq,Int.reduceLT,Int.reduceLE,Int.reduceNe,Nat.reduceBneDiff,Nat.reduceBEq,decide_false,gt_iff_lt,Bool.or_self,Bool.false_eq_true,Nat.mul_one,Nat.one_mul,Nat.zero_mul,↓reduceIte,Nat.reduceEqDiff,Nat.reduceLT,Nat.reduceAdd,Nat.reduceLeDiff,reduceCtorEq,goInt,pairs,isConst,TI.isAgg,splice,boxS,Edp,dpv,Nat.beq_eq,ZV.val,List.any_cons,List.any_nil,Bool.false_and,gc9]
    refine specKoDec (by omega) (fun y2 hy3 v4 σ10 hv4 k10 => ?_) fun k2 r2 a2 hy3 σ10 d2 z2 k10 hd2 hn2 => by cases hy3.det hD2
    have hye := hy3.det hD2
    simp only [Except.ok.injEq] at hye
    subst hye
    have gt10 := (k10.at gt9 (by simp) (by simp)).1
    obtain ⟨oa,ob,oc,od,oe,o1,o2,o3,o4,o5,rfl⟩ := hv4
    have hv4 : PkV (coP n2 kp2 l2 cl2 w2 u2 pw2) (.agg ⟨pkC (coP n2 kp2 l2 cl2 w2 u2 pw2) oa ob oc od oe⟩) := ⟨_,_,_,_,_,o1,o2,o3,o4,o5,rfl⟩
    have vo1 := dl_vc o1
    have vo2 := dl_vc o2
    have vo3 := dl_vc o3
    have vo4 := dl_vc o4
    have vo5 := dl_vc o5
    simp only [pkC] at hv4 ⊢
    simp (disch := first | assumption | simp) only [↓sbD,sbU,tyB,↓reduceIte,Nat.reduceEqDiff,Nat.reduceLT,Nat.reduceAdd,Nat.reduceLeDiff,isConst,splice,AS_new,zePk,vo1.2,vo2.2,vo3.2,vo4.2,vo5.2]
    intro t' ht'
    try simp (disch := first | assumption | simp) only [↓sbD,sbU,tyB,Nat.reduceMul,Nat.reduceSub,Int.reduceEq,Int.reduceLT,Int.reduceLE,Int.reduceNe,Nat.reduceBneDiff,Nat.reduceBEq,decide_false,gt_iff_lt,Bool.or_self,Bool.false_eq_true,Nat.mul_one,Nat.one_mul,Nat.zero_mul,↓reduceIte,Nat.reduceEqDiff,Nat.reduceLT,Nat.reduceAdd,Nat.reduceLeDiff,reduceCtorEq,goInt,pairs,isConst,TI.isAgg,splice,boxS,Edp,dpv,Nat.beq_eq,ZV.val,List.any_cons,List.any_nil,Bool.false_and,AHeap.get_set_same,vo1.1,vo1.2,vo2.1,vo2.2,vo3.1,vo3.2,vo4.1,vo4.2,vo5.1,vo5.2,Bool.and_self,Bool.and_true,List.length_cons,List.length_nil,List.cons_append,List.nil_append,List.drop_succ_cons,List.drop_zero,decide_true]
    generalize hσ11 : AHeap.set (AHeap.set σ10 t' _) t' _ = σ11
    have gt' : σ11.get t' = .cells [.int .i64 (coP n2 kp2 l2 cl2 w2 u2 pw2).kind,.int .i64 (coP n2 kp2 l2 cl2 w2 u2 pw2).id,.int .i64 (coP n2 kp2 l2 cl2 w2 u2 pw2).rea,oa,.bool (coP n2 kp2 l2 cl2 w2 u2 pw2).clean,.int .i64 (coP n2 kp2 l2 cl2 w2 u2 pw2).keep,.string (coP n2 kp2 l2 cl2 w2 u2 pw2).client,.bool (coP n2 kp2 l2 cl2 w2 u2 pw2).will.has,.string (coP n2 kp2 l2 cl2 w2 u2 pw2).will.topic,.string (coP n2 kp2 l2 cl2 w2 u2 pw2).will.pay,.int .i64 (coP n2 kp2 l2 cl2 w2 u2 pw2).will.qos,.bool (coP n2 kp2 l2 cl2 w2 u2 pw2).will.ret,ob,.bool (coP n2 kp2 l2 cl2 w2 u2 pw2).hasU,.string (coP n2 kp2 l2 cl2 w2 u2 pw2).user,.bool (coP n2 kp2 l2 cl2 w2 u2 pw2).hasP,.string (coP n2 kp2 l2 cl2 w2 u2 pw2).pass,.bool (coP n2 kp2 l2 cl2 w2 u2 pw2).present,.string (coP n2 kp2 l2 cl2 w2 u2 pw2).topic,.string (coP n2 kp2 l2 cl2 w2 u2 pw2).pay,.int .i64 (coP n2 kp2 l2 cl2 w2 u2 pw2).qos,.bool (coP n2 kp2 l2 cl2 w2 u2 pw2).ret,.bool (coP n2 kp2 l2 cl2 w2 u2 pw2).dup,oc,od,oe] true 0 := by rw [← hσ11]; exact AHeap.get_set_same _ _ _
    have k11 : Kept σ10 [] σ11 [] := by rw [← hσ11]; exact ((Kept.refl _ []).setD ht').setD ht'
    clear hσ11
    try simp (disch := first | assumption | simp) only [↓sbD,sbU,tyB,Nat.reduceMul,Nat.reduceSub,Int.reduceEq,Int.reduceLT,Int.reduceLE,Int.reduceNe,Nat.reduceBneDiff,Nat.reduceBEq,decide_false,gt_iff_lt,Bool.or_self,Bool.false_eq_true,Nat.mul_one,Nat.one_mul,Nat.zero_mul,↓reduceIte,Nat.reduceEqDiff,Nat.reduceLT,Nat.reduceAdd,Nat.reduceLeDiff,reduceCtorEq,goInt,pairs,isConst,TI.isAgg,splice,boxS,Edp,dpv,Nat.beq_eq,ZV.val,List.any_cons,List.any_nil,Bool.false_and,gt']
    have gt11 := (k11.at gt10 (by simp) (by simp)).1
    simp (disch := first | assumption | simp) only [↓sbD,sbU,tyB,↓reduceIte,Nat.reduceEqDiff,Nat.reduceLT,Nat.reduceAdd,Nat.reduceLeDiff,gt11,gt']
    refine specKSame (p := (coP n2 kp2 l2 cl2 w2 u2 pw2)) hv3 hv4 (by have := hsm2.props.1; omega) (by have := hsm2.wprops.1; omega) (by simp [coP,pkz]) (by simp [coP,pkz]) (by simp [coP,pkz])  ?_
    simp (disch := first | assumption | simp) only [↓sbD,sbU,↓reduceIte,Nat.reduceEqDiff,Nat.reduceLT]
    refine specS19 ?_
    simp (disch := first | assumption | simp) only [↓sbD,sbU,↓reduceIte,Nat.reduceEqDiff,Nat.reduceLT]
    exact downS_here rfl
 exact (key H (ext_holds hB0)).mono fun r H' ⟨σ',_,h⟩ => h
end Go.Proofs.YtjkhhdknplelcaaGreatDoor.AbsB
