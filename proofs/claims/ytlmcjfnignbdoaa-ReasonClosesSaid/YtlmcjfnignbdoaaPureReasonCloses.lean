/- What Close says of any code is a bad code that a Disconnect may have, and Close says it again. Conditions: none. -/
import Derived.Test.YtlmcjfnignbdoaaPReasonClosesx3
namespace Go.Proofs.Ytlmcjfnignbdoaa.Pure
open Go.RowKit Go.Proofs.Ytlmcjfnignbdoaa.PReasonCloses Go.Proofs.YtlmcjfnignbdoaaW.PrintWords Go.Proofs.YtlmcjfnignbdoaaW.PrintLast
namespace ReasonClosesAid
set_option maxRecDepth 100000

theorem awake_true : towncrierlaw05_awake.f 600 = some true := by decide +kernel

theorem group_out {k : Nat} (kd : Int) (h : ¬ (0 ≤ kd ∧ kd < 16)) : reason_group.f (k + 3) kd = reason_group.f (k + 3) 0 := by
  have h2 : ¬ kd = 2 := by omega
  have h4 : ¬ kd = 4 := by omega
  have h5 : ¬ kd = 5 := by omega
  have h6 : ¬ kd = 6 := by omega
  have h7 : ¬ kd = 7 := by omega
  have h9 : ¬ kd = 9 := by omega
  have h11 : ¬ kd = 11 := by omega
  have h14 : ¬ kd = 14 := by omega
  have h15 : ¬ kd = 15 := by omega
  simp [reason_group.f, reason_group.j0, reason_group.j1, h2, h4, h5, h6, h7, h9, h11, h14, h15]

theorem good_out {k : Nat} (c : Int) (h : ¬ (0 ≤ c ∧ c < 163)) : reason_good.f (k + 3) c = some 0 := by
  have e : ∀ n : Nat, n < 163 → c ≠ (n : Int) := fun n hn he => h (by omega)
  have e0 := e 0 (by omega)
  have e1 := e 1 (by omega)
  have e2 := e 2 (by omega)
  have e4 := e 4 (by omega)
  have e16 := e 16 (by omega)
  have e17 := e 17 (by omega)
  have e24 := e 24 (by omega)
  have e25 := e 25 (by omega)
  simp at e0 e1 e2 e4 e16 e17 e24 e25
  simp [reason_good.f, reason_good.j0, e0, e1, e2, e4, e16, e17, e24, e25]

theorem ne_lit {c : Int} (h : ¬ (0 ≤ c ∧ c < 163)) (n : Int) (h0 : 0 ≤ n) (h1 : n < 163) : (c = n) = False := by
  apply propext; constructor
  · intro e; omega
  · exact False.elim

theorem ne_litb {c : Int} (h : ¬ (0 ≤ c ∧ c < 163)) (n : Int) (h0 : 0 ≤ n) (h1 : n < 163) : (c == n) = false := by
  rw [beq_eq_false_iff_ne]; intro e; omega

theorem groups_out {k : Nat} (c : Int) (h : ¬ (0 ≤ c ∧ c < 163)) : reason_groups.f (k + 9) c = some 0 := by
  have hg := fun k => good_out (k := k) c h
  have e := ne_lit h
  have eb := ne_litb h
  simp [reason_groups.f, reason_groups.j0, reason_groups.j1, reason_groups.j2, reason_groups.j3, reason_groups.j4, reason_groups.j5, e, eb, hg]

theorem allowed_kind {k : Nat} (kd c : Int) (h : ¬ (0 ≤ kd ∧ kd < 16)) : reason_Allowed.f (k + 3) kd c = reason_Allowed.f (k + 3) 0 c := by
  unfold reason_Allowed.f
  rw [group_out kd h]

theorem allowed_code {k : Nat} (kd c : Int) (h : ¬ (0 ≤ c ∧ c < 163)) : reason_Allowed.f (k + 9) kd c = reason_Allowed.f (k + 9) kd 255 := by
  unfold reason_Allowed.f
  rw [groups_out c h, groups_out 255 (by omega)]

theorem allowed_some : ∀ c : Fin 256, ∀ kd : Fin 16, (reason_Allowed.f 600 (kd.val : Int) (c.val : Int)).isSome = true := by decide +kernel

theorem allowed_some' (kd c : Int) (h0 : 0 ≤ kd) (h1 : kd < 16) (g0 : 0 ≤ c) (g1 : c < 256) : (reason_Allowed.f 600 kd c).isSome = true := by
  have := allowed_some ⟨c.toNat, by omega⟩ ⟨kd.toNat, by omega⟩
  simp only at this
  rwa [Int.toNat_of_nonneg h0, Int.toNat_of_nonneg g0] at this

theorem close128 : reason_Bad.f 128 = some true ∧ reason_Allowed.f 600 14 128 = some true ∧ reason_Close.f 600 128 = some 128 := by decide +kernel

end ReasonClosesAid
open ReasonClosesAid
theorem ReasonCloses : towncrierlaw05_ReasonCloses.Pure := by
  intro c _
  refine ⟨600, ?_⟩
  have hc : reason_Close.f 600 c = some 128 ∨ (reason_Close.f 600 c = some c ∧ reason_Bad.f c = some true ∧ reason_Allowed.f 600 14 c = some true) := by
    unfold reason_Close.f
    cases hb : reason_Bad.f c with
    | none => exfalso; unfold reason_Bad.f at hb; split at hb <;> simp at hb
    | some b =>
      cases b with
      | false => left; simp
      | true =>
        have hr : 0 ≤ c ∧ c < 256 := by
          unfold reason_Bad.f at hb
          split at hb
          · simp at hb; omega
          · simp at hb
        have hs := allowed_some' 14 c (by omega) (by omega) hr.1 hr.2
        obtain ⟨a, ha⟩ := Option.isSome_iff_exists.mp hs
        rw [ha]
        cases a <;> simp
  obtain ⟨e1, e2, e3⟩ := close128
  unfold towncrierlaw05_ReasonCloses.f
  rcases hc with h | ⟨h, hb, ha⟩
  · rw [h]; simp [e1, e2, e3, awake_true]
  · rw [h]; simp [h, hb, ha, awake_true]


end Go.Proofs.Ytlmcjfnignbdoaa.Pure
