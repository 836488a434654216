/-
  Parts of a law's proof.
-/
import Derived.Test.YtccimdfmddomaaaDoorARdqcJ
import Derived.Test.YtccimdfmddomaaaDoorAFwqdJ
namespace Go.Proofs.YtccimdfmddomaaaDoor.AbsA
open Go AbsYtccimdfmddomaaaDoor Abs
set_option maxRecDepth 100000
set_option maxHeartbeats 2000000
set_option linter.unusedSimpArgs false
set_option linter.unusedVariables false
/-- a property -/
structure Pr where
  id : Int
  n : Int
  s : ByteArray
  v : ByteArray
deriving DecidableEq
def propC (p : Pr) : List Value := [.int .i64 p.id, .int .i64 p.n, .string p.s, .string p.v]
/-- what a property has -/
def typI (id : Int) : Int :=
  if id = 1 ∨ id = 23 ∨ id = 25 ∨ id = 36 ∨ id = 37 ∨ id = 40 ∨ id = 41 ∨ id = 42 then 1
  else if id = 19 ∨ id = 33 ∨ id = 34 ∨ id = 35 then 2
  else if id = 2 ∨ id = 17 ∨ id = 24 ∨ id = 39 then 4
  else if id = 11 then 5
  else if id = 3 ∨ id = 8 ∨ id = 18 ∨ id = 21 ∨ id = 26 ∨ id = 28 ∨ id = 31 then 6
  else if id = 9 ∨ id = 22 then 7
  else if id = 38 then 9 else 0
/-- may a place have a property -/
def allow (id pl : Int) : Bool :=
  if id = 1 ∨ id = 2 ∨ id = 3 ∨ id = 8 ∨ id = 9 then decide (pl = 3 ∨ pl = 16)
  else if id = 11 then decide (pl = 3 ∨ pl = 8)
  else if id = 35 then decide (pl = 3)
  else if id = 24 then decide (pl = 16)
  else if id = 23 ∨ id = 25 then decide (pl = 1)
  else if id = 18 ∨ id = 19 ∨ id = 26 ∨ id = 36 ∨ id = 37 ∨ id = 40 ∨ id = 41 ∨ id = 42 then decide (pl = 2)
  else if id = 28 then decide (pl = 2 ∨ pl = 14)
  else if id = 33 ∨ id = 34 ∨ id = 39 then decide (pl = 1 ∨ pl = 2)
  else if id = 17 then decide (pl = 1 ∨ pl = 2 ∨ pl = 14)
  else if id = 21 ∨ id = 22 then decide (pl = 1 ∨ pl = 2 ∨ pl = 15)
  else if id = 31 then decide (pl = 2 ∨ pl = 4 ∨ pl = 5 ∨ pl = 6 ∨ pl = 7 ∨ pl = 9 ∨ pl = 11 ∨ pl = 14 ∨ pl = 15)
  else if id = 38 then decide (1 ≤ pl ∧ pl ≤ 16 ∧ pl ≠ 12 ∧ pl ≠ 13)
  else false
def numOk (p : Pr) : Bool :=
  if p.id = 1 ∨ p.id = 23 ∨ p.id = 25 ∨ p.id = 36 ∨ p.id = 37 ∨ p.id = 40 ∨ p.id = 41 ∨ p.id = 42 then decide (p.n = 0 ∨ p.n = 1)
  else if p.id = 11 ∨ p.id = 33 ∨ p.id = 35 ∨ p.id = 39 then decide (0 < p.n) else true
def hasId (l : List Pr) (id : Int) : Bool := l.any fun p => decide (p.id = id)
/-- why a property may not stand behind others: an error's number and reason -/
def groundP (pl : Int) (ahead : List Pr) (id : Int) : Option (Nat × Nat) :=
  if 64 ≤ ahead.length then some (4, 149)
  else if typI id = 0 ∨ allow id pl = false then some (2, 129)
  else if id ≠ 38 ∧ ¬ (id = 11 ∧ pl = 3) ∧ hasId ahead id = true then some (3, 130) else none
/-- bytes that are written, or the first error and its place -/
def runW (b : ByteArray) : List Act → ByteArray ⊕ (Nat × Nat)
  | [] => .inl b
  | a :: l => match actW a with
    | .inl m => runW (b ++ m) l
    | .inr (k, q) => .inr (k, b.size + q)
/-- a writer behind some fields -/
def WRun (σ : AHeap) (w : Nat) (r : ByteArray ⊕ (Nat × Nat)) (fp : List Nat) : Prop := match r with
  | .inl b => IsW σ w b .nilIface fp
  | .inr (k, q) => ∃ b d z, d ≤ 2 ∧ ErN d (fv 129 (q : Int) z) k ∧ IsW σ w b (fv 129 (q : Int) z) fp
/-- what a property has, read -/
def valueR (id : Int) (s : ByteArray) (p : Nat) : Rd Pr :=
  if typI id = 9 then match textR s p with
    | .error e => .error e
    | .ok (a, q) => match textR s q with
      | .error e => .error e
      | .ok (b, q') => .ok (⟨id, 0, a, b⟩, q')
  else match rdA (typI id) s p with
    | .error e => .error e
    | .ok ((n, a), q) => .ok (⟨id, n, a, emp⟩, q)
/-- one property behind others: an error's number, reason and place, or it and the place behind it -/
def oneR (pl : Int) (s : ByteArray) (p : Nat) (ahead : List Pr) : Except (Nat × Nat × Nat) (Pr × Nat) := match varR s p with
  | .error (k, q) => .error (k, 129, q)
  | .ok (id, q) => match groundP pl ahead id with
    | some (k, r) => .error (k, r, p)
    | none => match valueR id s q with
      | .error (k, q') => .error (k, 129, q')
      | .ok (pr, q') => if numOk pr then .ok (pr, q') else .error (3, 130, p)
/-- all properties from a place on -/
inductive AllP (pl : Int) (s : ByteArray) : Nat → List Pr → Except (Nat × Nat × Nat) (List Pr) → Prop
  | nil {p : Nat} {l : List Pr} (h : s.size ≤ p) : AllP pl s p l (.ok l)
  | bad {p : Nat} {l : List Pr} {e : Nat × Nat × Nat} (h : p < s.size) (ho : oneR pl s p l = .error e) : AllP pl s p l (.error e)
  | step {p q : Nat} {l : List Pr} {x : Pr} {r : Except (Nat × Nat × Nat) (List Pr)} (h : p < s.size) (ho : oneR pl s p l = .ok (x, q)) (hr : AllP pl s q (l ++ [x]) r) : AllP pl s p l r
end Go.Proofs.YtccimdfmddomaaaDoor.AbsA
namespace Go.Proofs.YtccimdfmddomaaaDoor.AbsA
open Go AbsYtccimdfmddomaaaDoor Abs
set_option maxRecDepth 100000
set_option maxHeartbeats 8000000
set_option linter.unusedSimpArgs false
set_option linter.unusedVariables false
attribute [local irreducible] afterS afterOpS opSK OpsS TrS CodeS condS condW thenS thenQ guardS guardTS outS drawS trSK consS
section
variable {σ : AHeap} {Q : Value → AHeap → Prop}
end
end Go.Proofs.YtccimdfmddomaaaDoor.AbsA
namespace Go.Proofs.YtccimdfmddomaaaDoor.AbsA
open Go AbsYtccimdfmddomaaaDoor Abs
set_option maxRecDepth 100000
set_option maxHeartbeats 8000000
set_option linter.unusedSimpArgs false
set_option linter.unusedVariables false
attribute [local irreducible] afterS afterOpS opSK OpsS TrS CodeS condS condW thenS thenQ guardS guardTS outS drawS trSK consS
section
variable {σ : AHeap} {Q : Value → AHeap → Prop}
def intC (n : Int) : List Value := [.int .i64 n]
theorem DLi.len {v : Value} {l : List Int} (h : DL intC 1 v l) (σ : AHeap) : abuiltin E σ .len [108] [v] = some (.int .i64 (l.length : Int), σ) := by
  rcases h with ⟨rfl, rfl⟩ | ⟨m, rfl⟩ <;> rfl
theorem DLi.at {v : Value} {l : List Int} (h : DL intC 1 v l) {i : Nat} (hi : i < l.length) : aindexAddr E 108 v (.int .i64 (i : Int)) = some (dptr (intC l[i] ++ (l.drop (i + 1)).flatMap intC)) := by
  rcases h with ⟨rfl, rfl⟩ | ⟨m, rfl⟩
  · simp at hi
  · rw [ia_dsl hi, drop_flat (enc := intC) (sz := 1) (fun a => rfl) hi]; rfl
end
end Go.Proofs.YtccimdfmddomaaaDoor.AbsA
namespace Go.Proofs.YtccimdfmddomaaaDoor.AbsA
open Go AbsYtccimdfmddomaaaDoor Abs
set_option maxRecDepth 100000
set_option maxHeartbeats 2000000
set_option linter.unusedSimpArgs false
set_option linter.unusedVariables false
attribute [local irreducible] afterS afterOpS opSK OpsS TrS CodeS condS condW thenS thenQ guardS guardTS outS drawS trSK consS
section
variable {σ : AHeap} {Q : Value → AHeap → Prop}
theorem propC_len (a : Pr) : (propC a).length = 4 := rfl
theorem DLp.len {v : Value} {l : List Pr} (h : DL propC 4 v l) (σ : AHeap) : abuiltin E σ .len [84] [v] = some (.int .i64 (l.length : Int), σ) := by
  rcases h with ⟨rfl, rfl⟩ | ⟨m, rfl⟩ <;> rfl
theorem DLp.at {v : Value} {l : List Pr} (h : DL propC 4 v l) {i : Nat} (hi : i < l.length) : aindexAddr E 84 v (.int .i64 (i : Int)) = some (dptr (propC l[i] ++ (l.drop (i + 1)).flatMap propC)) := by
  rcases h with ⟨rfl, rfl⟩ | ⟨m, rfl⟩
  · simp at hi
  · rw [ia_dsl hi, drop_flat propC_len hi]; rfl
end
end Go.Proofs.YtccimdfmddomaaaDoor.AbsA
namespace Go.Proofs.YtccimdfmddomaaaDoor.AbsA
open Go AbsYtccimdfmddomaaaDoor Abs
set_option maxRecDepth 100000
set_option maxHeartbeats 2000000
set_option linter.unusedSimpArgs false
set_option linter.unusedVariables false
attribute [local irreducible] afterS afterOpS opSK OpsS TrS CodeS condS condW thenS thenQ guardS guardTS outS drawS trSK consS
section
variable {σ : AHeap} {Q : Value → AHeap → Prop}
theorem flat_take {α : Type} {enc : α → List Value} {sz : Nat} (hsz : ∀ a, (enc a).length = sz) : ∀ (l : List α) (i : Nat), i ≤ l.length → (l.flatMap enc).take (i * sz) = (l.take i).flatMap enc
  | [], i, h => by
    have : i = 0 := by simpa using h
    subst this; simp
  | a :: l, 0, _ => by simp
  | a :: l, i + 1, h => by
    rw [List.flatMap_cons, List.take_succ_cons, List.flatMap_cons, Nat.succ_mul, Nat.add_comm, ← hsz a, List.take_length_add_append, hsz a, flat_take hsz l i (by simpa using h)]
theorem DLp.to {v : Value} {l : List Pr} (h : DL propC 4 v l) {i : Nat} (hi : i ≤ l.length) : ∃ v', DL propC 4 v' (l.take i) ∧ ∀ τ : AHeap, aslice E τ 84 v none (some (.int .i64 (i : Int))) none = some v' := by
  rcases h with ⟨rfl, rfl⟩ | ⟨m, rfl⟩
  · obtain rfl : i = 0 := by simpa using hi
    exact ⟨_, .inl ⟨rfl, rfl⟩, fun τ => by simp [aslice, ty84, ty140, abound]⟩
  · refine ⟨dsl (if m = 1 then (if i = l.length then 1 else 0) else if i = l.length ∧ 0 < i then m else 0) 4 (l.take i).length ((l.take i).flatMap propC), .inr ⟨_, rfl⟩, fun τ => ?_⟩
    rw [List.length_take, Nat.min_eq_left hi, ← flat_take propC_len l i hi]
    simp [aslice, dsl, ty84, ty140, abound, hi]
end
end Go.Proofs.YtccimdfmddomaaaDoor.AbsA
namespace Go.Proofs.YtccimdfmddomaaaDoor.AbsA
open Go AbsYtccimdfmddomaaaDoor Abs
set_option maxRecDepth 100000
set_option maxHeartbeats 2000000
set_option linter.unusedSimpArgs false
set_option linter.unusedVariables false
attribute [local irreducible] afterS afterOpS opSK OpsS TrS CodeS condS condW thenS thenQ guardS guardTS outS drawS trSK consS
section
variable {σ : AHeap} {Q : Value → AHeap → Prop} {w : Nat} {fp : List Nat} {r : ByteArray ⊕ (Nat × Nat)}
theorem WOut.run {a : ByteArray} {act : Act} (h : WOut σ w a (actW act) fp) : WRun σ w (runW a [act]) fp := by
  unfold WOut at h
  unfold runW
  cases ha : actW act with
  | inl m => rw [ha] at h; exact h
  | inr e =>
    obtain ⟨k, q⟩ := e
    rw [ha] at h
    obtain ⟨d, x, h1, h2, h3⟩ := h
    exact ⟨a, d, x, h1, h2, h3⟩
theorem WRun.kept {σ' : AHeap} {gp gp' : List Nat} (h : WRun σ w r fp) (k : Kept σ gp σ' gp') (hd : ∀ b ∈ fp, b ∉ gp) : WRun σ' w r fp := by
  cases r with
  | inl b => exact IsW.kept h k hd
  | inr e => obtain ⟨n, q⟩ := e; obtain ⟨b, d, z, h1, h2, h3⟩ := h; exact ⟨b, d, z, h1, h2, IsW.kept h3 k hd⟩
end
end Go.Proofs.YtccimdfmddomaaaDoor.AbsA
