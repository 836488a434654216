/-
  ScriptBack, for any bounds, events and bytes: the law answers true, and the caller's memory is as it was; on the condition that the row lists (what its variables hold when the call begins), which the card ties to the program's text.
-/
import Derived.Test.YtdiekikcnfjlnaaDoorASdqcJ
import Derived.Test.YtdiekikcnfjlnaaDoorCards
import Derived.Test.YtdiekikcnfjlnaaDoorTie
import Derived.WalkKit
import Derived.ProofKit
import Derived.OpenShut
import Derived.ShutString
import Derived.ChangeOld
import Derived.Below
import Derived.SizedLaws
import Derived.ReadAgain
import Derived.ChangeSame
import Derived.ChangeVars
import Derived.JoinedOf
import Derived.RowKitTokens
import Derived.LaidLaws
import Derived.LaidHandle
import Derived.SevenTiedAt
namespace Go.Proofs.YtdiekikcnfjlnaaDoor.scriptBack
open Go.ChangeShapes Go.WideShapes Go.ChangeAt Go.RowKit AbsYtdiekikcnfjlnaaDoor
set_option linter.unusedVariables false
set_option maxRecDepth 100000
theorem own : ownKnob Tryd.prog.godebug = none := by kernel_rfl
theorem kids : Kids Tryd.prog (· < Tryd.prog.types.size) := kids_rows (by kernel_rfl) (by kernel_rfl)
theorem full : ∀ t e,t < Tryd.prog.types.size → Tryd.prog.underlying t = some (.slice e) → 0 < Tryd.prog.cellsOf e := slices_full_of Tryd.prog (by kernel_rfl)
theorem trodAll_below {H : Type} {enc : TypeId × Value → H} {P : Program} {W W' : World} (bel : Below W.heap.size W W') : ∀ {ts : List TypeId} {vs : List Value} {ds : List (DataW H)} {ps : List MemPlace},DataW.TrodAll enc P W 0 (fun _ => true) true ts vs ds ps → DataW.TrodAll enc P W' 0 (fun _ => true) true ts vs ds ps
 | [],[],[],_,h => h
 | _ :: _,_ :: _,_ :: _,_,⟨p,q,⟨n,h1⟩,h2,e⟩ => ⟨p,q,⟨n,DataW.trod_carry n _ _ _ h1 fun x hx => bel.same (DataW.trod_lt n _ _ _ h1 x hx)⟩,trodAll_below bel h2,e⟩
def laid : List (String × DataW Unit) := [("towncrier/api.ErrShort", Rows.laid_towncrier_api_ErrShort), ("towncrier/api.ErrMalformed", Rows.laid_towncrier_api_ErrMalformed), ("towncrier/api.ErrProtocol", Rows.laid_towncrier_api_ErrProtocol), ("towncrier/api.ErrTooLarge", Rows.laid_towncrier_api_ErrTooLarge), ("towncrier/api.ErrQuota", Rows.laid_towncrier_api_ErrQuota), ("towncrier/api.ErrState", Rows.laid_towncrier_api_ErrState), ("towncrier/api.ErrArgument", Rows.laid_towncrier_api_ErrArgument)]
theorem star : "*" ++ "errors.errorString" = "*errors.errorString" := by decide
theorem rowES (u : TypeId) (h : Tryd.prog.typeName? 3 u = some "*errors.errorString") : u = 95 :=
 typeName_ptr_named (nm := "errors.errorString") (by rw [star]; kernel_rfl) (by kernel_rfl) (by decide) u (by rw [star]; exact h)
theorem sok : ∀ s ∈ AbsA.S,Tryd.prog.globalNamed s.name = some s.g ∧ (Tryd.prog.globals[s.g]?).map (·.type) = some 28 := fun s hs => by
 simp only [AbsA.S,List.mem_cons,List.not_mem_nil,or_false] at hs
 rcases hs with rfl | rfl | rfl | rfl | rfl | rfl | rfl <;> exact ⟨by kernel_rfl,by kernel_rfl⟩
theorem laid_here {W : World} (h : laidMetH Tryd.prog laid W) : ∃ ι,Laid AbsA.E W ι AbsA.B := by
 have h1 : laidMet Tryd.prog (laidOf "*errors.errorString" AbsA.S) W := h
 have hlt : 7 ≤ W.heap.size := by
  obtain ⟨ps,hvs,_,hr⟩ := h1
  obtain ⟨aa,hl,ha⟩ := sents_of_laid (P := Tryd.prog) Tryd.underlying28 rowES Tryd.underlying95 Tryd.underlying119 rfl rfl Tryd.underlying9 (by kernel_rfl) (by kernel_rfl) sok hvs hr
  have hk : 5 < aa.length := by rw [hl]; decide
  obtain ⟨h2,_⟩ := ha 5 _ aa[5] rfl (List.getElem?_eq_getElem hk)
  obtain ⟨C,ty,fz,k1,_⟩ := cell_row h2
  have h3 := (Array.getElem?_eq_some_iff.1 k1).1
  exact h3
 exact laid_baseG (E := AbsA.E) (P := Tryd.prog) (S := AbsA.S) (hd := Abs.handle) (tp := 95) hlt rfl Tryd.underlying28 rowES Tryd.underlying95 Tryd.underlying119 rfl rfl Tryd.underlying9 (by kernel_rfl) (by kernel_rfl)
  sok (dis_of (of_decide_eq_true (by kernel_rfl))) h1 (fun hh => absurd (show (7 : Nat) < 7 from hh) (Nat.lt_irrefl _))
noncomputable def low : Nat := (World.holding Tryd.prog default ⟨#[],#[],[]⟩).heap.size
noncomputable def laidWorld (os : Os) : World :=
 let w0 := World.holding Tryd.prog os ⟨#[.cells #[.string ⟨#[116,111,111,32,102,101,119,32,98,121,116,101,115]⟩] 119,.cells #[.string ⟨#[109,97,108,102,111,114,109,101,100]⟩] 119,.cells #[.string ⟨#[97,103,97,105,110,115,116,32,116,104,101,32,112,114,111,116,111,99,111,108]⟩] 119,.cells #[.string ⟨#[116,111,111,32,108,97,114,103,101]⟩] 119,.cells #[.string ⟨#[110,111,32,114,111,111,109]⟩] 119,.cells #[.string ⟨#[110,111,116,32,110,111,119]⟩] 119,.cells #[.string ⟨#[110,111,32,115,117,99,104,32,116,104,105,110,103]⟩] 119],#[],[]⟩
 { w0 with heap := (((((((w0.heap).modify 2 fun
   | .cells _ t frozen => .cells #[.iface 95 (.pointer (some ⟨low + 0,0,none⟩))] t frozen
   | o => o).modify 3 fun
   | .cells _ t frozen => .cells #[.iface 95 (.pointer (some ⟨low + 1,0,none⟩))] t frozen
   | o => o).modify 4 fun
   | .cells _ t frozen => .cells #[.iface 95 (.pointer (some ⟨low + 2,0,none⟩))] t frozen
   | o => o).modify 0 fun
   | .cells _ t frozen => .cells #[.iface 95 (.pointer (some ⟨low + 3,0,none⟩))] t frozen
   | o => o).modify 5 fun
   | .cells _ t frozen => .cells #[.iface 95 (.pointer (some ⟨low + 4,0,none⟩))] t frozen
   | o => o).modify 6 fun
   | .cells _ t frozen => .cells #[.iface 95 (.pointer (some ⟨low + 5,0,none⟩))] t frozen
   | o => o).modify 1 fun
   | .cells _ t frozen => .cells #[.iface 95 (.pointer (some ⟨low + 6,0,none⟩))] t frozen
   | o => o }
theorem laid_met (os : Os) (args : Array Value) : laidMetH Tryd.prog laid ((laidWorld os).forCall (fun _ _ => 0) ⟨#[],args,[]⟩).memory :=
 laidMetH_of_parts (laidMet_of_run (ps := [.cell 2 0,.cell (low + 0) 0,.cell 3 0,.cell (low + 1) 0,.cell 4 0,.cell (low + 2) 0,.cell 0 0,.cell (low + 3) 0,.cell 5 0,.cell (low + 4) 0,.cell 6 0,.cell (low + 5) 0,.cell 1 0,.cell (low + 6) 0]) 8 (by kernel_rfl) (by kernel_rfl) (by kernel_rfl)) (by kernel_rfl)
theorem lifted (os : Os) (started : os.Started) (H : Type) (enc : TypeId × Value → H) :
  ReturnsInHanded {} Tryd.checked os 3 .any (fun w args => (Rows.scriptBackSpec.pre enc Tryd.prog Tryd.f3 [] false w args ∧ laidMetH Tryd.prog laid w) ∧ sizedMet enc Tryd.prog Tryd.f3 (OpenSpec.ofChange Rows.scriptBackSpec) false w args)
   (Rows.scriptBackSpec.post enc Tryd.prog Tryd.f3 false true false false) := by
 refine returnsInHanded_of_change_and (C := Tryd.checked) (X := fun w _ => laidMetH Tryd.prog laid w) (fun _ _ _ hh h => h.of_heap hh) own started (by kernel_rfl) Tryd.func3
  (ChangeSpec.witness_at (enc := enc) (C := Tryd.checked) (os := os) (X := fun w _ => laidMetH Tryd.prog laid w) false (laidWorld os) #[.agg ⟨[.int .i64 0,.int .i64 0,.int .i64 0,.int .i64 0,.int .i64 0,.int .i64 0,.int .i64 0,.int .i64 0,.int .i64 0,.int .i64 0,.int .i64 0,.int .i64 0,.int .i64 0]⟩,.slice none 0 0,.string ⟨#[]⟩] 8 rfl (by kernel_rfl) (by kernel_rfl) (by kernel_rfl) (by kernel_rfl) (by kernel_rfl) (laid_met os _)) ?_
 intro W base args ds gs before hval0 hW _ _ hL _
 have hval : ∀ (j : Nat) t v,Tryd.f3.params[j]? = some t → args[j]? = some v → Value.okWide Tryd.prog W .any base t v := hval0
 have hW' := hW
 obtain ⟨p,q,hA0,hV,rfl,hfz,hnd⟩ := hW
 have hA : DataW.TrodAll enc Tryd.prog W 0 (fun _ => true) true Tryd.f3.params.toList args.toList ds p := hA0
 have hAk := hA
 rw [Tryd.params3] at hA hval
 obtain ⟨v0,vs0,d0,ds0,p0,q0,hargs,rfl,rfl,h0,r0⟩ := trodAll_cons hA
 obtain ⟨v1,vs1,d1,ds1,p1,q1,rfl,rfl,rfl,h1,r1⟩ := trodAll_cons r0
 obtain ⟨v2,vs2,d2,ds2,p2,q2,rfl,rfl,rfl,h2,r2⟩ := trodAll_cons r1
 obtain ⟨rfl,rfl,rfl⟩ := trodAll_nil r2
 obtain ⟨rfl,rfl⟩ := trodVars_none hV
 obtain ⟨ι,L0⟩ := laid_here hL
 refine (law_callsG (E := AbsA.E) AbsA.env_ok (f := 3) rfl (show Tryd.f3.body = some (bodyOf Tryd.f3) from rfl) 8 hA (by kernel_rfl) (fun j t v hj hv => hval j t v (by simpa using hj) hv) L0 (fun H vs h1 h2 h3 => AbsA.law3 ⟨h1,h2⟩ h3)).mono fun e W' ⟨he,bel⟩ => ?_
 subst he
 exact ⟨_,rfl,_,_,_,[],_,[],hW',trodAll_mk1 (shut_bool Tryd.underlying4 _),DataW.TrodAll.respare kids full (by rw [Tryd.params3]; decide) (trodAll_below bel hAk) (fun x hx => by simpa using DataW.TrodAll.lt hAk x hx),rfl,bel.frame _,fun h => by cases h⟩
theorem over : Rows.scriptBackRow.holds Tryd.pinned (OpenSpec.ofChange Rows.scriptBackSpec) :=
 OpenClaim.holds_of_wide 3 Tryd.f3 rfl rfl rfl rfl rfl rfl rfl ⟨rfl,rfl,rfl,rfl,rfl⟩ rfl rfl rfl rfl rfl (by kernel_rfl) Tryd.func3 (by kernel_rfl)
  (of_decide_eq_true (by kernel_rfl)) (by unfold Func.isWrapper; first | (rw [if_pos (by decide +kernel)]; kernel_rfl) | (rw [if_neg (by decide +kernel)]; exact ⟨rfl,rfl⟩))
  (fun os started H enc _ => lifted os started H enc)
theorem proved : Rows.ScriptBackCardSaid :=
 Claim7.holds_tied_plain_at .later [] [.sentinel, .sentinel, .sentinel, .sentinel, .sentinel, .sentinel, .sentinel] true (true, "0645e7052c0c07a8bff3ed3329f7ad582df6c9763e479bf5f5602fd8185499ae") true
  over (fun _ h => by cases h) (by kernel_rfl) (fun _ h => by cases h) scriptBack_row_tie rfl ⟨rfl,rfl⟩ (by kernel_rfl) rfl
  (fun f fn hf hfn => by
    obtain rfl : f = 3 := Option.some.inj ((show Tryd.prog.funcNamed "towncrier/towncrierlaw43.ScriptBack" = some 3 by kernel_rfl).symm.trans hf) |>.symm
    obtain rfl : fn = Tryd.f3 := (Option.some.inj (Tryd.func3.symm.trans hfn)).symm
    refine ⟨by kernel_rfl,fun j t ht => ?_⟩
    rw [Tryd.params3] at ht
    have hall : ([23,24,9] : List TypeId).all (fun t => !Tryd.prog.wantsStandIn t) = true := by kernel_rfl
    have hm : t ∈ ([23,24,9] : List TypeId) := List.mem_of_getElem? (by simpa using ht)
    have h2 : Tryd.prog.wantsStandIn t = false := by simpa using List.all_eq_true.1 hall t hm
    exact h2)
  (by kernel_rfl)
end Go.Proofs.YtdiekikcnfjlnaaDoor.scriptBack
namespace Go.Proofs.YtdiekikcnfjlnaaDoor
theorem scriptBack_holds : Rows.ScriptBackCardSaid := scriptBack.proved
end Go.Proofs.YtdiekikcnfjlnaaDoor
