/-
  ConnNobody, for any act: the law answers true, and the caller's memory is as it was; on the condition that the row lists (what its variables hold when the call begins), which the card ties to the program's text.
-/
import Derived.Test.YtkhcbbpfchgemaaGreatDoorACbqc
import Derived.Test.YtkhcbbpfchgemaaGreatDoorCards
import Derived.Test.YtkhcbbpfchgemaaGreatDoorTie
import Derived.WalkKit
import Derived.ProofKit
import Derived.OpenShut
import Derived.ShutString
import Derived.ChangeOld
import Derived.Below
import Derived.SizedLaws
import Derived.ReadAgain
import Derived.ChangeSame
import Derived.ChangeVars
import Derived.JoinedOf
import Derived.RowKitTokens
import Derived.LaidLaws
import Derived.LaidHandle
import Derived.SevenTiedAt
namespace Go.Proofs.YtkhcbbpfchgemaaGreatDoor.connNobody
open Go.ChangeShapes Go.WideShapes Go.ChangeAt Go.RowKit AbsYtkhcbbpfchgemaaGreatDoor
set_option linter.unusedVariables false
set_option maxRecDepth 100000
theorem own : ownKnob Tryz.prog.godebug = none := by kernel_rfl
theorem kids : Kids Tryz.prog (· < Tryz.prog.types.size) := kids_rows (by kernel_rfl) (by kernel_rfl)
theorem full : ∀ t e,t < Tryz.prog.types.size → Tryz.prog.underlying t = some (.slice e) → 0 < Tryz.prog.cellsOf e := slices_full_of Tryz.prog (by kernel_rfl)
theorem trodAll_below {H : Type} {enc : TypeId × Value → H} {P : Program} {W W' : World} (bel : Below W.heap.size W W') : ∀ {ts : List TypeId} {vs : List Value} {ds : List (DataW H)} {ps : List MemPlace},DataW.TrodAll enc P W 0 (fun _ => true) true ts vs ds ps → DataW.TrodAll enc P W' 0 (fun _ => true) true ts vs ds ps
 | [],[],[],_,h => h
 | _ :: _,_ :: _,_ :: _,_,⟨p,q,⟨n,h1⟩,h2,e⟩ => ⟨p,q,⟨n,DataW.trod_carry n _ _ _ h1 fun x hx => bel.same (DataW.trod_lt n _ _ _ h1 x hx)⟩,trodAll_below bel h2,e⟩
def laid : List (String × DataW Unit) := [("errors.errorType", Rows.laid_errors_errorType), ("towncrier/api.ErrShort", Rows.laid_towncrier_api_ErrShort), ("towncrier/api.ErrMalformed", Rows.laid_towncrier_api_ErrMalformed), ("towncrier/api.ErrProtocol", Rows.laid_towncrier_api_ErrProtocol), ("towncrier/api.ErrTooLarge", Rows.laid_towncrier_api_ErrTooLarge), ("towncrier/api.ErrQuota", Rows.laid_towncrier_api_ErrQuota), ("towncrier/api.ErrState", Rows.laid_towncrier_api_ErrState), ("towncrier/api.ErrArgument", Rows.laid_towncrier_api_ErrArgument)]
theorem star : "*" ++ "errors.errorString" = "*errors.errorString" := by decide
theorem rowES (u : TypeId) (h : Tryz.prog.typeName? 3 u = some "*errors.errorString") : u = 306 :=
 typeName_ptr_named (nm := "errors.errorString") (by rw [star]; kernel_rfl) (by kernel_rfl) (by decide) u (by rw [star]; exact h)
theorem et : Tryz.prog.globalNamed "errors.errorType" = some 7 := by kernel_rfl
theorem rt : (Tryz.prog.cutTypes.find? (·.1 == "internal/reflectlite.rtype")).map (·.2) = some 256 := by kernel_rfl
theorem oneRow : ((List.range 337).filter fun t => Tryz.prog.rowNamed t [101,114,114,111,114]) = [38] := by kernel_rfl
theorem size : Tryz.prog.types.size = 337 := by kernel_rfl
theorem parts_of_laid {W : World} (h : laidMetH Tryz.prog laid W) : laidMet Tryz.prog (laidOf "*errors.errorString" AbsA.S) W ∧ W.cell? ⟨7, 0, none⟩ = some (.iface 256 (.agg #[.pointer (some ⟨8, 38, none⟩)])) := by
 have h' : laidMet Tryz.prog (laidOf "*errors.errorString" AbsA.S) W ∧ handlesMet Tryz.prog [("errors.errorType", Rows.laid_errors_errorType)] W := h
 refine ⟨h'.1,?_⟩
 obtain ⟨name,u,ty,e1,e2,e3,e4,e5⟩ := h'.2 _ (List.mem_singleton.2 rfl)
 have en : name = [101,114,114,111,114] := (Option.some.inj e1).symm
 subst en
 obtain rfl := Option.some.inj (rt.symm.trans e2)
 have hm : ty ∈ (List.range 337).filter fun t => Tryz.prog.rowNamed t [101,114,114,111,114] := List.mem_filter.2 ⟨List.mem_range.2 (by rw [← size]; exact e3),e4⟩
 rw [oneRow] at hm
 obtain rfl := List.mem_singleton.1 hm
 have hh : typeHandle Tryz.prog 38 = .pointer (some ⟨8,38,none⟩) := by kernel_rfl
 rw [hh] at e5
 simpa using World.var?_cell et e5 0
theorem laid_here {W : World} (h : laidMetH Tryz.prog laid W) : ∃ ι,Laid AbsA.E W ι AbsA.B := by
 obtain ⟨h1,h2⟩ := parts_of_laid h
 have hlt : 8 ≤ W.heap.size := by
  obtain ⟨C,ty,fz,k1,_⟩ := cell_row h2
  have := (Array.getElem?_eq_some_iff.1 k1).1
  simp only at this; omega
 exact laid_base (E := AbsA.E) (P := Tryz.prog) (S := AbsA.S) (hd := Abs.handle) (tp := 306) hlt rfl Tryz.underlying38 rowES Tryz.underlying306 Tryz.underlying326 rfl rfl Tryz.underlying9 (by kernel_rfl) (by kernel_rfl)
  (fun s hs => by
    simp only [AbsA.S,List.mem_cons,List.not_mem_nil,or_false] at hs
    rcases hs with rfl | rfl | rfl | rfl | rfl | rfl | rfl <;> exact ⟨by kernel_rfl,by kernel_rfl⟩)
  (dis_of (of_decide_eq_true (by kernel_rfl))) h1 h2 (fun ι => .iface _ _ _ (.agg _ _ (.cons _ _ _ _ (.tok _ _) .nil)))
noncomputable def low : Nat := (World.holding Tryz.prog default ⟨#[],#[],[]⟩).heap.size
noncomputable def laidWorld (os : Os) : World :=
 let w0 := World.holding Tryz.prog os ⟨#[.cells #[.string ⟨#[116,111,111,32,102,101,119,32,98,121,116,101,115]⟩] 326,.cells #[.string ⟨#[109,97,108,102,111,114,109,101,100]⟩] 326,.cells #[.string ⟨#[97,103,97,105,110,115,116,32,116,104,101,32,112,114,111,116,111,99,111,108]⟩] 326,.cells #[.string ⟨#[116,111,111,32,108,97,114,103,101]⟩] 326,.cells #[.string ⟨#[110,111,32,114,111,111,109]⟩] 326,.cells #[.string ⟨#[110,111,116,32,110,111,119]⟩] 326,.cells #[.string ⟨#[110,111,32,115,117,99,104,32,116,104,105,110,103]⟩] 326],#[],[]⟩
 { w0 with heap := ((((((((w0.heap).modify 1 fun
   | .cells _ t frozen => .cells #[.iface 306 (.pointer (some ⟨low + 0,0,none⟩))] t frozen
   | o => o).modify 0 fun
   | .cells _ t frozen => .cells #[.iface 306 (.pointer (some ⟨low + 1,0,none⟩))] t frozen
   | o => o).modify 2 fun
   | .cells _ t frozen => .cells #[.iface 306 (.pointer (some ⟨low + 2,0,none⟩))] t frozen
   | o => o).modify 3 fun
   | .cells _ t frozen => .cells #[.iface 306 (.pointer (some ⟨low + 3,0,none⟩))] t frozen
   | o => o).modify 4 fun
   | .cells _ t frozen => .cells #[.iface 306 (.pointer (some ⟨low + 4,0,none⟩))] t frozen
   | o => o).modify 5 fun
   | .cells _ t frozen => .cells #[.iface 306 (.pointer (some ⟨low + 5,0,none⟩))] t frozen
   | o => o).modify 6 fun
   | .cells _ t frozen => .cells #[.iface 306 (.pointer (some ⟨low + 6,0,none⟩))] t frozen
   | o => o).modify 7 fun
   | .cells _ t frozen => .cells #[.iface 256 (.agg #[.pointer (some ⟨8,38,none⟩)])] t frozen
   | o => o }
theorem laid_met (os : Os) (args : Array Value) : laidMetH Tryz.prog laid ((laidWorld os).forCall (fun _ _ => 0) ⟨#[],args,[]⟩).memory :=
 laidMetH_of_parts (laidMet_of_run (ps := [.cell 1 0,.cell (low + 0) 0,.cell 0 0,.cell (low + 1) 0,.cell 2 0,.cell (low + 2) 0,.cell 3 0,.cell (low + 3) 0,.cell 4 0,.cell (low + 4) 0,.cell 5 0,.cell (low + 5) 0,.cell 6 0,.cell (low + 6) 0]) 8 (by kernel_rfl) (by kernel_rfl) (by kernel_rfl)) (by kernel_rfl)
theorem lifted (os : Os) (started : os.Started) (H : Type) (enc : TypeId × Value → H) :
  ReturnsInHanded {} Tryz.checked os 7 .any (fun w args => (Rows.connNobodySpec.pre enc Tryz.prog Tryz.f7 [] false w args ∧ laidMetH Tryz.prog laid w) ∧ sizedMet enc Tryz.prog Tryz.f7 (OpenSpec.ofChange Rows.connNobodySpec) false w args)
   (Rows.connNobodySpec.post enc Tryz.prog Tryz.f7 false true false false) := by
 refine returnsInHanded_of_change_and (C := Tryz.checked) (X := fun w _ => laidMetH Tryz.prog laid w) (fun _ _ _ hh h => h.of_heap hh) own started (by kernel_rfl) Tryz.func7
  (ChangeSpec.witness_at (enc := enc) (C := Tryz.checked) (os := os) (X := fun w _ => laidMetH Tryz.prog laid w) false (laidWorld os) #[.agg #[.int .i64 0,.string ⟨#[]⟩,.int .i64 0,.int .i64 0,.int .i64 0,.slice none 0 0,.bool false,.int .i64 0,.string ⟨#[]⟩,.bool false,.string ⟨#[]⟩,.string ⟨#[]⟩,.int .i64 0,.bool false,.slice none 0 0,.bool false,.string ⟨#[]⟩,.bool false,.string ⟨#[]⟩,.bool false,.string ⟨#[]⟩,.string ⟨#[]⟩,.int .i64 0,.bool false,.bool false,.slice none 0 0,.slice none 0 0,.slice none 0 0,.int .i64 0,.int .i64 0,.int .i64 0,.int .i64 0,.int .i64 0,.bool false,.int .i64 0,.bool false]] 8 rfl (by kernel_rfl) (by kernel_rfl) (by kernel_rfl) (by kernel_rfl) (by kernel_rfl) (laid_met os _)) ?_
 intro W base args ds gs before hval0 hW _ _ hL _
 have hval : ∀ (j : Nat) t v,Tryz.f7.params[j]? = some t → args[j]? = some v → Value.okWide Tryz.prog W .any base t v := hval0
 have hW' := hW
 obtain ⟨p,q,hA0,hV,rfl,hfz,hnd⟩ := hW
 have hA : DataW.TrodAll enc Tryz.prog W 0 (fun _ => true) true Tryz.f7.params.toList args.toList ds p := hA0
 have hAk := hA
 rw [Tryz.params7] at hA hval
 obtain ⟨v0,vs0,d0,ds0,p0,q0,hargs,rfl,rfl,h0,r0⟩ := trodAll_cons hA
 obtain ⟨rfl,rfl,rfl⟩ := trodAll_nil r0
 obtain ⟨rfl,rfl⟩ := trodVars_none hV
 obtain ⟨ι,L0⟩ := laid_here hL
 refine (law_callsG (E := AbsA.E) AbsA.env_ok (f := 7) rfl (show Tryz.f7.body = some (bodyOf Tryz.f7) from rfl) 8 hA (by kernel_rfl) (fun j t v hj hv => hval j t v (by simpa using hj) hv) L0 (fun H vs h1 h2 h3 => AbsA.law16 ⟨h1,h2⟩ h3)).mono fun e W' ⟨he,bel⟩ => ?_
 subst he
 exact ⟨_,rfl,_,_,_,[],_,[],hW',trodAll_mk1 (shut_bool Tryz.underlying4 _),DataW.TrodAll.respare kids full (by rw [Tryz.params7]; decide) (trodAll_below bel hAk) (fun x hx => by simpa using DataW.TrodAll.lt hAk x hx),rfl,bel.frame _,fun h => by cases h⟩
def cl0 (P : Program) (fn : Func) (s : ChangeSpec) (c : OpenClaim) : Bool := c.wf (OpenSpec.ofChange s) && laidOutB P && mapsRowed P && fn.params.all (P.readableRec ·) && namedTie P c.named s.vars && (c.stops == []) && (P.stops == []) && (c.knobs == []) && (P.stopKnobs == [])
theorem closed0 : cl0 Tryz.pinned.checked.prog Tryz.f7 Rows.connNobodySpec Rows.connNobodyRow = true := by kernel_rfl
theorem closed1 : (Rows.connNobodyRow.inPlace == Tryz.pinned.checked.prog.inPlace 7) = true := by kernel_rfl
theorem closed2 : (Rows.connNobodyRow.unfollowed == Tryz.pinned.checked.prog.unfollowed 7) = true := by kernel_rfl
theorem closed3 : (Rows.connNobodyRow.recurses == Tryz.pinned.checked.prog.recurses 7) = true := by kernel_rfl
theorem closed4 : (Rows.connNobodyRow.named == Tryz.pinned.checked.prog.varsNamed 7) = true := by kernel_rfl
theorem aT {a b : Bool} (h : a = true) (k : b = true) : (a && b) = true := by rw [h,k]; rfl
theorem closed : joinedFacts Tryz.pinned.checked.prog 7 Tryz.f7 Rows.connNobodySpec Rows.connNobodyRow = true := by
 unfold joinedFacts
 refine aT (aT (aT (aT (aT (aT (aT (aT (aT (aT (aT (aT (aT (aT (aT (aT (aT (aT (aT (aT (aT (aT (aT closed0 closed1) closed2) closed3) closed4) ?_) ?_) ?_) ?_) ?_) ?_) ?_) ?_) ?_) ?_) ?_) ?_) ?_) ?_) ?_) ?_) ?_) ?_) ?_
 all_goals kernel_rfl
theorem over : Rows.connNobodyRow.holds Tryz.pinned (OpenSpec.ofChange Rows.connNobodySpec) :=
 OpenClaim.holds_of_wide 7 Tryz.f7 rfl rfl rfl rfl rfl rfl rfl ⟨rfl,rfl,rfl,rfl,rfl⟩ rfl rfl rfl rfl rfl (by kernel_rfl) Tryz.func7 closed
  (of_decide_eq_true (by kernel_rfl)) (by unfold Func.isWrapper; first | (rw [if_pos (by decide +kernel)]; kernel_rfl) | (rw [if_neg (by decide +kernel)]; exact ⟨rfl,rfl⟩))
  (fun os started H enc _ => lifted os started H enc)
theorem proved : Rows.ConnNobodyCardSaid :=
 Claim7.holds_tied_plain_at .later [] [.handle, .sentinel, .sentinel, .sentinel, .sentinel, .sentinel, .sentinel, .sentinel] true (true, "1c703b90aaee890fb4fab0ebcc3ba8daf3099433f3609baeb5caf883683ac3f2") true
  over (fun _ h => by cases h) (by kernel_rfl) (fun _ h => by cases h) connNobody_row_tie rfl ⟨rfl,rfl⟩ (by kernel_rfl) rfl
  (fun f fn hf hfn => by
    obtain rfl : f = 7 := Option.some.inj ((show Tryz.prog.funcNamed "towncrier/towncrierlaw37.ConnNobody" = some 7 by kernel_rfl).symm.trans hf) |>.symm
    obtain rfl : fn = Tryz.f7 := (Option.some.inj (Tryz.func7.symm.trans hfn)).symm
    refine ⟨by kernel_rfl,fun j t ht => ?_⟩
    rw [Tryz.params7] at ht
    have hall : ([72] : List TypeId).all (fun t => !Tryz.prog.wantsStandIn t) = true := by kernel_rfl
    have hm : t ∈ ([72] : List TypeId) := List.mem_of_getElem? (by simpa using ht)
    have h2 : Tryz.prog.wantsStandIn t = false := by simpa using List.all_eq_true.1 hall t hm
    exact h2)
  (by kernel_rfl)
end Go.Proofs.YtkhcbbpfchgemaaGreatDoor.connNobody
namespace Go.Proofs.YtkhcbbpfchgemaaGreatDoor
theorem connNobody_holds : Rows.ConnNobodyCardSaid := connNobody.proved
end Go.Proofs.YtkhcbbpfchgemaaGreatDoor
