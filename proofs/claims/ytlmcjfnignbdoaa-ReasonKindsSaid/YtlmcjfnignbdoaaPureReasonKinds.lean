/- For every code the kinds of one group may have it together, and what some kind may have is a code. Conditions: none. -/
import Derived.Test.YtlmcjfnignbdoaaPReasonKindsx4
namespace Go.Proofs.Ytlmcjfnignbdoaa.Pure
open Go.RowKit Go.Proofs.Ytlmcjfnignbdoaa.PReasonKinds Go.Proofs.YtlmcjfnignbdoaaW.PrintWords Go.Proofs.YtlmcjfnignbdoaaW.PrintLast
namespace ReasonKindsAid
set_option maxRecDepth 100000

theorem awake_true : towncrierlaw05_awake.f 600 = some true := by decide +kernel

theorem group_out {k : Nat} (kd : Int) (h : ¬ (0 ≤ kd ∧ kd < 16)) : reason_group.f (k + 3) kd = reason_group.f (k + 3) 0 := by
  have h2 : ¬ kd = 2 := by omega
  have h4 : ¬ kd = 4 := by omega
  have h5 : ¬ kd = 5 := by omega
  have h6 : ¬ kd = 6 := by omega
  have h7 : ¬ kd = 7 := by omega
  have h9 : ¬ kd = 9 := by omega
  have h11 : ¬ kd = 11 := by omega
  have h14 : ¬ kd = 14 := by omega
  have h15 : ¬ kd = 15 := by omega
  simp [reason_group.f, reason_group.j0, reason_group.j1, h2, h4, h5, h6, h7, h9, h11, h14, h15]

theorem good_out {k : Nat} (c : Int) (h : ¬ (0 ≤ c ∧ c < 163)) : reason_good.f (k + 3) c = some 0 := by
  have e : ∀ n : Nat, n < 163 → c ≠ (n : Int) := fun n hn he => h (by omega)
  have e0 := e 0 (by omega)
  have e1 := e 1 (by omega)
  have e2 := e 2 (by omega)
  have e4 := e 4 (by omega)
  have e16 := e 16 (by omega)
  have e17 := e 17 (by omega)
  have e24 := e 24 (by omega)
  have e25 := e 25 (by omega)
  simp at e0 e1 e2 e4 e16 e17 e24 e25
  simp [reason_good.f, reason_good.j0, e0, e1, e2, e4, e16, e17, e24, e25]

theorem ne_lit {c : Int} (h : ¬ (0 ≤ c ∧ c < 163)) (n : Int) (h0 : 0 ≤ n) (h1 : n < 163) : (c = n) = False := by
  apply propext; constructor
  · intro e; omega
  · exact False.elim

theorem ne_litb {c : Int} (h : ¬ (0 ≤ c ∧ c < 163)) (n : Int) (h0 : 0 ≤ n) (h1 : n < 163) : (c == n) = false := by
  rw [beq_eq_false_iff_ne]; intro e; omega

theorem groups_out {k : Nat} (c : Int) (h : ¬ (0 ≤ c ∧ c < 163)) : reason_groups.f (k + 9) c = some 0 := by
  have hg := fun k => good_out (k := k) c h
  have e := ne_lit h
  have eb := ne_litb h
  simp [reason_groups.f, reason_groups.j0, reason_groups.j1, reason_groups.j2, reason_groups.j3, reason_groups.j4, reason_groups.j5, e, eb, hg]

theorem allowed_kind {k : Nat} (kd c : Int) (h : ¬ (0 ≤ kd ∧ kd < 16)) : reason_Allowed.f (k + 3) kd c = reason_Allowed.f (k + 3) 0 c := by
  unfold reason_Allowed.f
  rw [group_out kd h]

theorem allowed_code {k : Nat} (kd c : Int) (h : ¬ (0 ≤ c ∧ c < 163)) : reason_Allowed.f (k + 9) kd c = reason_Allowed.f (k + 9) kd 255 := by
  unfold reason_Allowed.f
  rw [groups_out c h, groups_out 255 (by omega)]

theorem group_some (k : Nat) (kd : Int) : ∃ g, reason_group.f (k + 3) kd = some g := by
  simp only [reason_group.f, reason_group.j0, reason_group.j1]
  repeat' (first | exact ⟨_, rfl⟩ | split)

theorem allowed_out (k : Nat) (kd c : Int) (h : ¬ (0 ≤ c ∧ c < 163)) : reason_Allowed.f (k + 9) kd c = some false := by
  obtain ⟨g, hg⟩ := group_some (k + 6) kd
  unfold reason_Allowed.f
  rw [groups_out c h, hg]
  have hz : ∀ g, Go.bits .and .i64 0 g = 0 := by
    intro g
    simp only [Go.bits]
    rw [show (BitVec.ofInt IntKind.i64.bits 0) = 0#IntKind.i64.bits from rfl]
    simp only [BitVec.zero_and]
    rfl
  simp [hz]

theorem step (k : Nat) (c i : Int) (h : ¬ (0 ≤ c ∧ c < 163)) (hi : i < 20) : towncrierlaw05_ReasonKinds.l0 (k + 10) c false i = towncrierlaw05_ReasonKinds.l0 (k + 9) c false (wrap64 (i + 1)) := by
  simp only [towncrierlaw05_ReasonKinds.l0, allowed_out k _ c h]
  simp [hi]

theorem last (k : Nat) (c : Int) (h : ¬ (0 ≤ c ∧ c < 163)) : towncrierlaw05_ReasonKinds.l0 (k + 601) c false 20 = some true := by
  have e := towncrierlaw05_awake.mono
  have e2 : towncrierlaw05_awake.f (k + 600) = some true := by
    induction k with
    | zero => exact awake_true
    | succ k ih => exact e _ _ ih
  have ha := fun kd => allowed_out (k + 591) kd c h
  rw [show k + 591 + 9 = k + 600 by omega] at ha
  rw [show k + 601 = (k + 600) + 1 by omega, towncrierlaw05_ReasonKinds.l0, if_neg (by omega)]
  simp only [ha, Option.bind_some, e2]
  rfl

theorem run (c : Int) (h : ¬ (0 ≤ c ∧ c < 163)) (d : Nat) : ∀ (k : Nat) (i : Int), 0 ≤ i → i + d = 20 → 601 + d ≤ k → towncrierlaw05_ReasonKinds.l0 k c false i = some true := by
  induction d with
  | zero =>
    intro k i h0 h1 hk
    obtain ⟨k, rfl⟩ : ∃ m, k = m + 601 := ⟨k - 601, by omega⟩
    obtain rfl : i = 20 := by omega
    exact last k c h
  | succ d ih =>
    intro k i h0 h1 hk
    obtain ⟨k, rfl⟩ : ∃ m, k = m + 10 := ⟨k - 10, by omega⟩
    rw [step k c i h (by omega), show wrap64 (i + 1) = i + 1 by unfold wrap64; omega]
    exact ih (k + 9) (i + 1) (by omega) (by omega) (by omega)

theorem small : ∀ c : Fin 163, towncrierlaw05_ReasonKinds.f 700 (c.val : Int) = some true := by decide +kernel

end ReasonKindsAid
open ReasonKindsAid
theorem ReasonKinds : towncrierlaw05_ReasonKinds.Pure := by
  intro c _
  refine ⟨700, ?_⟩
  by_cases hc : 0 ≤ c ∧ c < 163
  · have := small ⟨c.toNat, by omega⟩
    simp only at this
    rwa [Int.toNat_of_nonneg hc.1] at this
  · exact run c hc 20 700 0 (by omega) (by omega) (by omega)


end Go.Proofs.Ytlmcjfnignbdoaa.Pure
