/- For every kind and every code the three functions of the package answer as the document's table does. Conditions: none. -/
import Derived.Test.YtlmcjfnignbdoaaPReasonIsx5
namespace Go.Proofs.Ytlmcjfnignbdoaa.Pure
open Go.RowKit Go.Proofs.Ytlmcjfnignbdoaa.PReasonIs Go.Proofs.YtlmcjfnignbdoaaW.PrintWords Go.Proofs.YtlmcjfnignbdoaaW.PrintLast
namespace ReasonIsAid
set_option maxRecDepth 100000

theorem awake_true : towncrierlaw05_awake.f 600 = some true := by decide +kernel

theorem group_out {k : Nat} (kd : Int) (h : ¬ (0 ≤ kd ∧ kd < 16)) : reason_group.f (k + 3) kd = reason_group.f (k + 3) 0 := by
  have h2 : ¬ kd = 2 := by omega
  have h4 : ¬ kd = 4 := by omega
  have h5 : ¬ kd = 5 := by omega
  have h6 : ¬ kd = 6 := by omega
  have h7 : ¬ kd = 7 := by omega
  have h9 : ¬ kd = 9 := by omega
  have h11 : ¬ kd = 11 := by omega
  have h14 : ¬ kd = 14 := by omega
  have h15 : ¬ kd = 15 := by omega
  simp [reason_group.f, reason_group.j0, reason_group.j1, h2, h4, h5, h6, h7, h9, h11, h14, h15]

theorem good_out {k : Nat} (c : Int) (h : ¬ (0 ≤ c ∧ c < 163)) : reason_good.f (k + 3) c = some 0 := by
  have e : ∀ n : Nat, n < 163 → c ≠ (n : Int) := fun n hn he => h (by omega)
  have e0 := e 0 (by omega)
  have e1 := e 1 (by omega)
  have e2 := e 2 (by omega)
  have e4 := e 4 (by omega)
  have e16 := e 16 (by omega)
  have e17 := e 17 (by omega)
  have e24 := e 24 (by omega)
  have e25 := e 25 (by omega)
  simp at e0 e1 e2 e4 e16 e17 e24 e25
  simp [reason_good.f, reason_good.j0, e0, e1, e2, e4, e16, e17, e24, e25]

theorem ne_lit {c : Int} (h : ¬ (0 ≤ c ∧ c < 163)) (n : Int) (h0 : 0 ≤ n) (h1 : n < 163) : (c = n) = False := by
  apply propext; constructor
  · intro e; omega
  · exact False.elim

theorem ne_litb {c : Int} (h : ¬ (0 ≤ c ∧ c < 163)) (n : Int) (h0 : 0 ≤ n) (h1 : n < 163) : (c == n) = false := by
  rw [beq_eq_false_iff_ne]; intro e; omega

theorem groups_out {k : Nat} (c : Int) (h : ¬ (0 ≤ c ∧ c < 163)) : reason_groups.f (k + 9) c = some 0 := by
  have hg := fun k => good_out (k := k) c h
  have e := ne_lit h
  have eb := ne_litb h
  simp [reason_groups.f, reason_groups.j0, reason_groups.j1, reason_groups.j2, reason_groups.j3, reason_groups.j4, reason_groups.j5, e, eb, hg]

theorem allowed_kind {k : Nat} (kd c : Int) (h : ¬ (0 ≤ kd ∧ kd < 16)) : reason_Allowed.f (k + 3) kd c = reason_Allowed.f (k + 3) 0 c := by
  unfold reason_Allowed.f
  rw [group_out kd h]

theorem allowed_code {k : Nat} (kd c : Int) (h : ¬ (0 ≤ c ∧ c < 163)) : reason_Allowed.f (k + 9) kd c = reason_Allowed.f (k + 9) kd 255 := by
  unfold reason_Allowed.f
  rw [groups_out c h, groups_out 255 (by omega)]

theorem letter_out (kd : Int) (h : ¬ (0 ≤ kd ∧ kd < 16)) : towncrierref05_Letter.f kd = towncrierref05_Letter.f 0 := by
  unfold towncrierref05_Letter.f
  by_cases h1 : kd < 1
  · simp [h1]
  · have h2 : kd > 15 := by omega
    simp [h1, h2]

theorem Groups_out {k : Nat} (c : Int) (h : ¬ (0 ≤ c ∧ c < 163)) : towncrierref05_Groups.f (k + 9) c = some ⟨#[]⟩ := by
  have e := ne_lit h
  have eb := ne_litb h
  simp [towncrierref05_Groups.f, towncrierref05_Groups.j0, towncrierref05_Groups.j1, towncrierref05_Groups.j2, towncrierref05_Groups.j3, towncrierref05_Groups.j4, towncrierref05_Groups.j5, towncrierref05_Groups.j6, e, eb]

theorem Allowed_kind {k : Nat} (kd c : Int) (h : ¬ (0 ≤ kd ∧ kd < 16)) : towncrierref05_Allowed.f k kd c = towncrierref05_Allowed.f k 0 c := by
  unfold towncrierref05_Allowed.f
  rw [letter_out kd h]

theorem Allowed_code {k : Nat} (kd c : Int) (h : ¬ (0 ≤ c ∧ c < 163)) : towncrierref05_Allowed.f (k + 9) kd c = towncrierref05_Allowed.f (k + 9) kd 255 := by
  unfold towncrierref05_Allowed.f
  rw [Groups_out c h, Groups_out 255 (by omega)]

theorem small : ∀ c : Fin 256, ∀ kd : Fin 16, reason_Allowed.f 600 (kd.val : Int) (c.val : Int) = towncrierref05_Allowed.f 600 (kd.val : Int) (c.val : Int) ∧ (reason_Allowed.f 600 (kd.val : Int) (c.val : Int)).isSome = true := by decide +kernel

theorem small' (kd c : Int) (h0 : 0 ≤ kd) (h1 : kd < 16) (g0 : 0 ≤ c) (g1 : c < 256) : reason_Allowed.f 600 kd c = towncrierref05_Allowed.f 600 kd c ∧ (reason_Allowed.f 600 kd c).isSome = true := by
  have := small ⟨c.toNat, by omega⟩ ⟨kd.toNat, by omega⟩
  simp only at this
  rwa [Int.toNat_of_nonneg h0, Int.toNat_of_nonneg g0] at this

theorem same (kd c : Int) : ∃ b, reason_Allowed.f 600 kd c = some b ∧ towncrierref05_Allowed.f 600 kd c = some b := by
  have main : reason_Allowed.f 600 kd c = towncrierref05_Allowed.f 600 kd c ∧ (reason_Allowed.f 600 kd c).isSome = true := by
    by_cases hk : 0 ≤ kd ∧ kd < 16
    · by_cases hc : 0 ≤ c ∧ c < 163
      · exact small' kd c hk.1 hk.2 hc.1 (by omega)
      · rw [allowed_code (k := 591) kd c hc, Allowed_code (k := 591) kd c hc]
        exact small' kd 255 hk.1 hk.2 (by omega) (by omega)
    · rw [allowed_kind (k := 597) kd c hk, Allowed_kind kd c hk]
      by_cases hc : 0 ≤ c ∧ c < 163
      · exact small' 0 c (by omega) (by omega) hc.1 (by omega)
      · rw [allowed_code (k := 591) 0 c hc, Allowed_code (k := 591) 0 c hc]
        exact small' 0 255 (by omega) (by omega) (by omega) (by omega)
  obtain ⟨h1, h2⟩ := main
  obtain ⟨b, hb⟩ := Option.isSome_iff_exists.mp h2
  exact ⟨b, hb, h1 ▸ hb⟩

theorem bad_same (c : Int) : ∃ b, reason_Bad.f c = some b ∧ towncrierref05_Bad.f c = some b := by
  unfold reason_Bad.f towncrierref05_Bad.f
  split <;> exact ⟨_, rfl, rfl⟩

theorem close_same (c : Int) : ∃ n, reason_Close.f 600 c = some n ∧ towncrierref05_Close.f 600 c = some n := by
  obtain ⟨b, h1, h2⟩ := bad_same c
  obtain ⟨a, h3, h4⟩ := same 14 c
  unfold reason_Close.f towncrierref05_Close.f
  rw [h1, h2, h3, h4]
  cases b <;> cases a <;> simp


end ReasonIsAid
open ReasonIsAid
theorem ReasonIs : towncrierlaw05_ReasonIs.Pure := by
  intro kd c _ _
  refine ⟨600, ?_⟩
  obtain ⟨a, h1, h2⟩ := same kd c
  obtain ⟨b, h3, h4⟩ := bad_same c
  obtain ⟨n, h5, h6⟩ := close_same c
  unfold towncrierlaw05_ReasonIs.f
  rw [h1, h2, h3, h4, h5, h6, awake_true]
  simp


end Go.Proofs.Ytlmcjfnignbdoaa.Pure
