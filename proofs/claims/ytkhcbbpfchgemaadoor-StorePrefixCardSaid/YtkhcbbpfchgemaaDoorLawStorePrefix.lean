/-
  StorePrefix, for any records and any number: the law answers true, and the caller's memory is as it was; on the condition that the row lists (what its variables hold when the call begins), which the card ties to the program's text.
-/
import Derived.Test.YtkhcbbpfchgemaaDoorASrqd
import Derived.Test.YtkhcbbpfchgemaaDoorCards
import Derived.Test.YtkhcbbpfchgemaaDoorTie
import Derived.WalkKit
import Derived.ProofKit
import Derived.OpenShut
import Derived.ShutString
import Derived.ChangeOld
import Derived.Below
import Derived.SizedLaws
import Derived.ReadAgain
import Derived.ChangeSame
import Derived.ChangeVars
import Derived.JoinedOf
import Derived.RowKitTokens
import Derived.LaidLaws
import Derived.LaidHandle
import Derived.SevenTiedAt
namespace Go.Proofs.YtkhcbbpfchgemaaDoor.storePrefix
open Go.ChangeShapes Go.WideShapes Go.ChangeAt Go.RowKit AbsYtkhcbbpfchgemaaDoor
set_option linter.unusedVariables false
set_option maxRecDepth 100000
theorem own : ownKnob Tryd.prog.godebug = none := by kernel_rfl
theorem kids : Kids Tryd.prog (· < Tryd.prog.types.size) := kids_rows (by kernel_rfl) (by kernel_rfl)
theorem full : ∀ t e,t < Tryd.prog.types.size → Tryd.prog.underlying t = some (.slice e) → 0 < Tryd.prog.cellsOf e := slices_full_of Tryd.prog (by kernel_rfl)
theorem trodAll_below {H : Type} {enc : TypeId × Value → H} {P : Program} {W W' : World} (bel : Below W.heap.size W W') : ∀ {ts : List TypeId} {vs : List Value} {ds : List (DataW H)} {ps : List MemPlace},DataW.TrodAll enc P W 0 (fun _ => true) true ts vs ds ps → DataW.TrodAll enc P W' 0 (fun _ => true) true ts vs ds ps
 | [],[],[],_,h => h
 | _ :: _,_ :: _,_ :: _,_,⟨p,q,⟨n,h1⟩,h2,e⟩ => ⟨p,q,⟨n,DataW.trod_carry n _ _ _ h1 fun x hx => bel.same (DataW.trod_lt n _ _ _ h1 x hx)⟩,trodAll_below bel h2,e⟩
def laid : List (String × DataW Unit) := [("errors.errorType", Rows.laid_errors_errorType), ("towncrier/api.ErrShort", Rows.laid_towncrier_api_ErrShort), ("towncrier/api.ErrMalformed", Rows.laid_towncrier_api_ErrMalformed), ("towncrier/api.ErrProtocol", Rows.laid_towncrier_api_ErrProtocol), ("towncrier/api.ErrTooLarge", Rows.laid_towncrier_api_ErrTooLarge), ("towncrier/api.ErrArgument", Rows.laid_towncrier_api_ErrArgument)]
theorem star : "*" ++ "errors.errorString" = "*errors.errorString" := by decide
theorem rowES (u : TypeId) (h : Tryd.prog.typeName? 3 u = some "*errors.errorString") : u = 135 :=
 typeName_ptr_named (nm := "errors.errorString") (by rw [star]; kernel_rfl) (by kernel_rfl) (by decide) u (by rw [star]; exact h)
theorem et : Tryd.prog.globalNamed "errors.errorType" = some 5 := by kernel_rfl
theorem rt : (Tryd.prog.cutTypes.find? (·.1 == "internal/reflectlite.rtype")).map (·.2) = some 118 := by kernel_rfl
theorem oneRow : ((List.range 166).filter fun t => Tryd.prog.rowNamed t [101,114,114,111,114]) = [34] := by kernel_rfl
theorem size : Tryd.prog.types.size = 166 := by kernel_rfl
theorem parts_of_laid {W : World} (h : laidMetH Tryd.prog laid W) : laidMet Tryd.prog (laidOf "*errors.errorString" AbsB.S) W ∧ W.cell? ⟨5, 0, none⟩ = some (.iface 118 (.agg #[.pointer (some ⟨6, 34, none⟩)])) := by
 have h' : laidMet Tryd.prog (laidOf "*errors.errorString" AbsB.S) W ∧ handlesMet Tryd.prog [("errors.errorType", Rows.laid_errors_errorType)] W := h
 refine ⟨h'.1,?_⟩
 obtain ⟨name,u,ty,e1,e2,e3,e4,e5⟩ := h'.2 _ (List.mem_singleton.2 rfl)
 have en : name = [101,114,114,111,114] := (Option.some.inj e1).symm
 subst en
 obtain rfl := Option.some.inj (rt.symm.trans e2)
 have hm : ty ∈ (List.range 166).filter fun t => Tryd.prog.rowNamed t [101,114,114,111,114] := List.mem_filter.2 ⟨List.mem_range.2 (by rw [← size]; exact e3),e4⟩
 rw [oneRow] at hm
 obtain rfl := List.mem_singleton.1 hm
 have hh : typeHandle Tryd.prog 34 = .pointer (some ⟨6,34,none⟩) := by kernel_rfl
 rw [hh] at e5
 simpa using World.var?_cell et e5 0
theorem laid_here {W : World} (h : laidMetH Tryd.prog laid W) : ∃ ι,Laid AbsB.E W ι AbsB.B := by
 obtain ⟨h1,h2⟩ := parts_of_laid h
 have hlt : 6 ≤ W.heap.size := by
  obtain ⟨C,ty,fz,k1,_⟩ := cell_row h2
  have := (Array.getElem?_eq_some_iff.1 k1).1
  simp only at this; omega
 exact laid_base (E := AbsB.E) (P := Tryd.prog) (S := AbsB.S) (hd := Abs.handle) (tp := 135) hlt rfl Tryd.underlying34 rowES Tryd.underlying135 Tryd.underlying155 rfl rfl Tryd.underlying9 (by kernel_rfl) (by kernel_rfl)
  (fun s hs => by
    simp only [AbsB.S,List.mem_cons,List.not_mem_nil,or_false] at hs
    rcases hs with rfl | rfl | rfl | rfl | rfl <;> exact ⟨by kernel_rfl,by kernel_rfl⟩)
  (dis_of (of_decide_eq_true (by kernel_rfl))) h1 h2 (fun ι => .iface _ _ _ (.agg _ _ (.cons _ _ _ _ (.tok _ _) .nil)))
noncomputable def low : Nat := (World.holding Tryd.prog default ⟨#[],#[],[]⟩).heap.size
noncomputable def laidWorld (os : Os) : World :=
 let w0 := World.holding Tryd.prog os ⟨#[.cells #[.string ⟨#[116,111,111,32,102,101,119,32,98,121,116,101,115]⟩] 155,.cells #[.string ⟨#[109,97,108,102,111,114,109,101,100]⟩] 155,.cells #[.string ⟨#[97,103,97,105,110,115,116,32,116,104,101,32,112,114,111,116,111,99,111,108]⟩] 155,.cells #[.string ⟨#[116,111,111,32,108,97,114,103,101]⟩] 155,.cells #[.string ⟨#[110,111,32,115,117,99,104,32,116,104,105,110,103]⟩] 155],#[],[]⟩
 { w0 with heap := ((((((w0.heap).modify 3 fun
   | .cells _ t frozen => .cells #[.iface 135 (.pointer (some ⟨low + 0,0,none⟩))] t frozen
   | o => o).modify 0 fun
   | .cells _ t frozen => .cells #[.iface 135 (.pointer (some ⟨low + 1,0,none⟩))] t frozen
   | o => o).modify 4 fun
   | .cells _ t frozen => .cells #[.iface 135 (.pointer (some ⟨low + 2,0,none⟩))] t frozen
   | o => o).modify 2 fun
   | .cells _ t frozen => .cells #[.iface 135 (.pointer (some ⟨low + 3,0,none⟩))] t frozen
   | o => o).modify 1 fun
   | .cells _ t frozen => .cells #[.iface 135 (.pointer (some ⟨low + 4,0,none⟩))] t frozen
   | o => o).modify 5 fun
   | .cells _ t frozen => .cells #[.iface 118 (.agg #[.pointer (some ⟨6,34,none⟩)])] t frozen
   | o => o }
theorem laid_met (os : Os) (args : Array Value) : laidMetH Tryd.prog laid ((laidWorld os).forCall (fun _ _ => 0) ⟨#[],args,[]⟩).memory :=
 laidMetH_of_parts (laidMet_of_run (ps := [.cell 3 0,.cell (low + 0) 0,.cell 0 0,.cell (low + 1) 0,.cell 4 0,.cell (low + 2) 0,.cell 2 0,.cell (low + 3) 0,.cell 1 0,.cell (low + 4) 0]) 8 (by kernel_rfl) (by kernel_rfl) (by kernel_rfl)) (by kernel_rfl)
theorem lifted (os : Os) (started : os.Started) (H : Type) (enc : TypeId × Value → H) :
  ReturnsInHanded {} Tryd.checked os 3 .any (fun w args => (Rows.storePrefixSpec.pre enc Tryd.prog Tryd.f3 [] false w args ∧ laidMetH Tryd.prog laid w) ∧ sizedMet enc Tryd.prog Tryd.f3 (OpenSpec.ofChange Rows.storePrefixSpec) false w args)
   (Rows.storePrefixSpec.post enc Tryd.prog Tryd.f3 false true false false) := by
 refine returnsInHanded_of_change_and (C := Tryd.checked) (X := fun w _ => laidMetH Tryd.prog laid w) (fun _ _ _ hh h => h.of_heap hh) own started (by kernel_rfl) Tryd.func3
  (ChangeSpec.witness_at (enc := enc) (C := Tryd.checked) (os := os) (X := fun w _ => laidMetH Tryd.prog laid w) false (laidWorld os) #[.slice none 0 0,.int .u8 0] 8 rfl (by kernel_rfl) (by kernel_rfl) (by kernel_rfl) (by kernel_rfl) (by kernel_rfl) (laid_met os _)) ?_
 intro W base args ds gs before hval0 hW _ _ hL _
 have hval : ∀ (j : Nat) t v,Tryd.f3.params[j]? = some t → args[j]? = some v → Value.okWide Tryd.prog W .any base t v := hval0
 have hW' := hW
 obtain ⟨p,q,hA0,hV,rfl,hfz,hnd⟩ := hW
 have hA : DataW.TrodAll enc Tryd.prog W 0 (fun _ => true) true Tryd.f3.params.toList args.toList ds p := hA0
 have hAk := hA
 rw [Tryd.params3] at hA hval
 obtain ⟨v0,vs0,d0,ds0,p0,q0,hargs,rfl,rfl,h0,r0⟩ := trodAll_cons hA
 obtain ⟨v1,vs1,d1,ds1,p1,q1,rfl,rfl,rfl,h1,r1⟩ := trodAll_cons r0
 obtain ⟨rfl,rfl,rfl⟩ := trodAll_nil r1
 obtain ⟨rfl,rfl⟩ := trodVars_none hV
 obtain ⟨ι,L0⟩ := laid_here hL
 refine (law_callsG (E := AbsB.E) AbsB.env_ok (f := 3) rfl (show Tryd.f3.body = some (bodyOf Tryd.f3) from rfl) 8 hA (by kernel_rfl) (fun j t v hj hv => hval j t v (by simpa using hj) hv) L0 (fun H vs h1 h2 h3 => AbsB.law19 ⟨h1,h2⟩ h3)).mono fun e W' ⟨he,bel⟩ => ?_
 subst he
 exact ⟨_,rfl,_,_,_,[],_,[],hW',trodAll_mk1 (shut_bool Tryd.underlying4 _),DataW.TrodAll.respare kids full (by rw [Tryd.params3]; decide) (trodAll_below bel hAk) (fun x hx => by simpa using DataW.TrodAll.lt hAk x hx),rfl,bel.frame _,fun h => by cases h⟩
def cl0 (P : Program) (fn : Func) (s : ChangeSpec) (c : OpenClaim) : Bool := c.wf (OpenSpec.ofChange s) && laidOutB P && mapsRowed P && fn.params.all (P.readableRec ·) && namedTie P c.named s.vars && (c.stops == []) && (P.stops == []) && (c.knobs == []) && (P.stopKnobs == [])
theorem closed0 : cl0 Tryd.pinned.checked.prog Tryd.f3 Rows.storePrefixSpec Rows.storePrefixRow = true := by kernel_rfl
theorem closed1 : (Rows.storePrefixRow.inPlace == Tryd.pinned.checked.prog.inPlace 3) = true := by kernel_rfl
theorem closed2 : (Rows.storePrefixRow.unfollowed == Tryd.pinned.checked.prog.unfollowed 3) = true := by kernel_rfl
theorem closed3 : (Rows.storePrefixRow.recurses == Tryd.pinned.checked.prog.recurses 3) = true := by kernel_rfl
theorem closed4 : (Rows.storePrefixRow.named == Tryd.pinned.checked.prog.varsNamed 3) = true := by kernel_rfl
theorem aT {a b : Bool} (h : a = true) (k : b = true) : (a && b) = true := by rw [h,k]; rfl
theorem closed : joinedFacts Tryd.pinned.checked.prog 3 Tryd.f3 Rows.storePrefixSpec Rows.storePrefixRow = true := by
 unfold joinedFacts
 refine aT (aT (aT (aT (aT (aT (aT (aT (aT (aT (aT (aT (aT (aT (aT (aT (aT (aT (aT (aT (aT (aT (aT closed0 closed1) closed2) closed3) closed4) ?_) ?_) ?_) ?_) ?_) ?_) ?_) ?_) ?_) ?_) ?_) ?_) ?_) ?_) ?_) ?_) ?_) ?_) ?_
 all_goals kernel_rfl
theorem over : Rows.storePrefixRow.holds Tryd.pinned (OpenSpec.ofChange Rows.storePrefixSpec) :=
 OpenClaim.holds_of_wide 3 Tryd.f3 rfl rfl rfl rfl rfl rfl rfl ⟨rfl,rfl,rfl,rfl,rfl⟩ rfl rfl rfl rfl rfl (by kernel_rfl) Tryd.func3 closed
  (of_decide_eq_true (by kernel_rfl)) (by unfold Func.isWrapper; first | (rw [if_pos (by decide +kernel)]; kernel_rfl) | (rw [if_neg (by decide +kernel)]; exact ⟨rfl,rfl⟩))
  (fun os started H enc _ => lifted os started H enc)
theorem proved : Rows.StorePrefixCardSaid :=
 Claim7.holds_tied_plain_at .later [] [.handle, .sentinel, .sentinel, .sentinel, .sentinel, .sentinel] true (true, "7553bfa0e3b5c1c04587006a819d7f96257f395211df1a0dcee6454736a22c02") true
  over (fun _ h => by cases h) (by kernel_rfl) (fun _ h => by cases h) storePrefix_row_tie rfl ⟨rfl,rfl⟩ (by kernel_rfl) rfl
  (fun f fn hf hfn => by
    obtain rfl : f = 3 := Option.some.inj ((show Tryd.prog.funcNamed "towncrier/towncrierlaw34.StorePrefix" = some 3 by kernel_rfl).symm.trans hf) |>.symm
    obtain rfl : fn = Tryd.f3 := (Option.some.inj (Tryd.func3.symm.trans hfn)).symm
    refine ⟨by kernel_rfl,fun j t ht => ?_⟩
    rw [Tryd.params3] at ht
    have hall : ([22,5] : List TypeId).all (fun t => !Tryd.prog.wantsStandIn t) = true := by kernel_rfl
    have hm : t ∈ ([22,5] : List TypeId) := List.mem_of_getElem? (by simpa using ht)
    have h2 : Tryd.prog.wantsStandIn t = false := by simpa using List.all_eq_true.1 hall t hm
    exact h2)
  (by kernel_rfl)
end Go.Proofs.YtkhcbbpfchgemaaDoor.storePrefix
namespace Go.Proofs.YtkhcbbpfchgemaaDoor
theorem storePrefix_holds : Rows.StorePrefixCardSaid := storePrefix.proved
end Go.Proofs.YtkhcbbpfchgemaaDoor
