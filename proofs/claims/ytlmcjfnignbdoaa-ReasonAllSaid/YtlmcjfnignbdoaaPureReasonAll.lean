/- For every kind the list of its codes is the document's list. Conditions: none. -/
import Derived.Test.YtlmcjfnignbdoaaPReasonAllx5
namespace Go.Proofs.Ytlmcjfnignbdoaa.Pure
open Go.RowKit Go.Proofs.Ytlmcjfnignbdoaa.PReasonAll Go.Proofs.YtlmcjfnignbdoaaW.PrintWords Go.Proofs.YtlmcjfnignbdoaaW.PrintLast
namespace ReasonAllAid
set_option maxRecDepth 100000

theorem awake_true : towncrierlaw05_awake.f 600 = some true := by decide +kernel

theorem group_out {k : Nat} (kd : Int) (h : ¬ (0 ≤ kd ∧ kd < 16)) : reason_group.f (k + 3) kd = reason_group.f (k + 3) 0 := by
  have h2 : ¬ kd = 2 := by omega
  have h4 : ¬ kd = 4 := by omega
  have h5 : ¬ kd = 5 := by omega
  have h6 : ¬ kd = 6 := by omega
  have h7 : ¬ kd = 7 := by omega
  have h9 : ¬ kd = 9 := by omega
  have h11 : ¬ kd = 11 := by omega
  have h14 : ¬ kd = 14 := by omega
  have h15 : ¬ kd = 15 := by omega
  simp [reason_group.f, reason_group.j0, reason_group.j1, h2, h4, h5, h6, h7, h9, h11, h14, h15]

theorem good_out {k : Nat} (c : Int) (h : ¬ (0 ≤ c ∧ c < 163)) : reason_good.f (k + 3) c = some 0 := by
  have e : ∀ n : Nat, n < 163 → c ≠ (n : Int) := fun n hn he => h (by omega)
  have e0 := e 0 (by omega)
  have e1 := e 1 (by omega)
  have e2 := e 2 (by omega)
  have e4 := e 4 (by omega)
  have e16 := e 16 (by omega)
  have e17 := e 17 (by omega)
  have e24 := e 24 (by omega)
  have e25 := e 25 (by omega)
  simp at e0 e1 e2 e4 e16 e17 e24 e25
  simp [reason_good.f, reason_good.j0, e0, e1, e2, e4, e16, e17, e24, e25]

theorem ne_lit {c : Int} (h : ¬ (0 ≤ c ∧ c < 163)) (n : Int) (h0 : 0 ≤ n) (h1 : n < 163) : (c = n) = False := by
  apply propext; constructor
  · intro e; omega
  · exact False.elim

theorem ne_litb {c : Int} (h : ¬ (0 ≤ c ∧ c < 163)) (n : Int) (h0 : 0 ≤ n) (h1 : n < 163) : (c == n) = false := by
  rw [beq_eq_false_iff_ne]; intro e; omega

theorem groups_out {k : Nat} (c : Int) (h : ¬ (0 ≤ c ∧ c < 163)) : reason_groups.f (k + 9) c = some 0 := by
  have hg := fun k => good_out (k := k) c h
  have e := ne_lit h
  have eb := ne_litb h
  simp [reason_groups.f, reason_groups.j0, reason_groups.j1, reason_groups.j2, reason_groups.j3, reason_groups.j4, reason_groups.j5, e, eb, hg]

theorem allowed_kind {k : Nat} (kd c : Int) (h : ¬ (0 ≤ kd ∧ kd < 16)) : reason_Allowed.f (k + 3) kd c = reason_Allowed.f (k + 3) 0 c := by
  unfold reason_Allowed.f
  rw [group_out kd h]

theorem allowed_code {k : Nat} (kd c : Int) (h : ¬ (0 ≤ c ∧ c < 163)) : reason_Allowed.f (k + 9) kd c = reason_Allowed.f (k + 9) kd 255 := by
  unfold reason_Allowed.f
  rw [groups_out c h, groups_out 255 (by omega)]

theorem group_out' {k : Nat} (kd : Int) (h : ¬ (0 ≤ kd ∧ kd < 16)) : reason_group.f k kd = reason_group.f k 0 := by
  have h2 : ¬ kd = 2 := by omega
  have h4 : ¬ kd = 4 := by omega
  have h5 : ¬ kd = 5 := by omega
  have h6 : ¬ kd = 6 := by omega
  have h7 : ¬ kd = 7 := by omega
  have h9 : ¬ kd = 9 := by omega
  have h11 : ¬ kd = 11 := by omega
  have h14 : ¬ kd = 14 := by omega
  have h15 : ¬ kd = 15 := by omega
  rcases k with _ | _ | k <;> simp [reason_group.f, reason_group.j0, reason_group.j1, h2, h4, h5, h6, h7, h9, h11, h14, h15]

theorem allowed_kind' {k : Nat} (kd c : Int) (h : ¬ (0 ≤ kd ∧ kd < 16)) : reason_Allowed.f k kd c = reason_Allowed.f k 0 c := by
  unfold reason_Allowed.f
  rw [group_out' kd h]

theorem all_kind (kd : Int) (h : ¬ (0 ≤ kd ∧ kd < 16)) : ∀ (j : Nat) (xs : List Int) (i : Int), reason_All.l0 j kd xs i = reason_All.l0 j 0 xs i := by
  intro j
  induction j with
  | zero => intro xs i; rfl
  | succ j ih => intro xs i; simp only [reason_All.l0, allowed_kind' kd _ h, ih]

theorem letter_out (kd : Int) (h : ¬ (0 ≤ kd ∧ kd < 16)) : towncrierref05_Letter.f kd = towncrierref05_Letter.f 0 := by
  unfold towncrierref05_Letter.f
  by_cases h1 : kd < 1
  · simp [h1]
  · have h2 : kd > 15 := by omega
    simp [h1, h2]

theorem Allowed_kind {k : Nat} (kd c : Int) (h : ¬ (0 ≤ kd ∧ kd < 16)) : towncrierref05_Allowed.f k kd c = towncrierref05_Allowed.f k 0 c := by
  unfold towncrierref05_Allowed.f
  rw [letter_out kd h]

theorem All_kind (kd : Int) (h : ¬ (0 ≤ kd ∧ kd < 16)) : ∀ (j : Nat) (xs : List Int) (i : Int), towncrierref05_All.l0 j kd xs i = towncrierref05_All.l0 j 0 xs i := by
  intro j
  induction j with
  | zero => intro xs i; rfl
  | succ j ih => intro xs i; simp only [towncrierref05_All.l0, Allowed_kind kd _ h, ih]

theorem small : ∀ kd : Fin 16, towncrierlaw05_ReasonAll.f 600 (kd.val : Int) = some true := by decide +kernel

end ReasonAllAid
open ReasonAllAid
theorem ReasonAll : towncrierlaw05_ReasonAll.Pure := by
  intro kd _
  refine ⟨600, ?_⟩
  by_cases hk : 0 ≤ kd ∧ kd < 16
  · have := small ⟨kd.toNat, by omega⟩
    simp only at this
    rwa [Int.toNat_of_nonneg hk.1] at this
  · have e : towncrierlaw05_ReasonAll.f 600 kd = towncrierlaw05_ReasonAll.f 600 0 := by
      unfold towncrierlaw05_ReasonAll.f reason_All.f towncrierref05_All.f
      rw [all_kind kd hk, All_kind kd hk]
    rw [e]
    exact small 0


end Go.Proofs.Ytlmcjfnignbdoaa.Pure
