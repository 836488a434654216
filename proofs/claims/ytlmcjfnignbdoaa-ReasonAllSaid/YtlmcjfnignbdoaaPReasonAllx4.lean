-- PRINTED BY print.sh 35421559b90ae4d0a3588c463048766b98c2df88dd9212a6774a882060cdf62d: not written by this session
import Derived.Test.YtlmcjfnignbdoaaPReasonAllx0
namespace Go.Proofs.Ytlmcjfnignbdoaa.PReasonAll
open Go.RowKit Go.Proofs.YtlmcjfnignbdoaaW.PrintWords Go.Proofs.YtlmcjfnignbdoaaW.PrintLast Go.Proofs.YtlmcjfnignbdoaaW.PrintMore
attribute [local go_sem] max2_int min2_int max_two min_two max_three min_three max_four min_four   -- for this text's walks alone
set_option linter.unusedVariables false
set_option linter.unusedSimpArgs false

/-! ### towncrierref05_Groups: function 45 -/
mutual
def towncrierref05_Groups.j0 : Nat → Int → Bool → Option (ByteArray)
  | 0, _, _ => none
  | k + 1, x3, x6 => if x6 = true then (some (⟨#[83]⟩ : ByteArray)) else (if x3 = 4 then (some (⟨#[68]⟩ : ByteArray)) else (if x3 = 16 then (some (⟨#[65]⟩ : ByteArray)) else (if x3 = 17 then (some (⟨#[85]⟩ : ByteArray)) else (if x3 = 24 then (towncrierref05_Groups.j1 k x3 (x3 == 24)) else (towncrierref05_Groups.j1 k x3 (x3 == 25))))))
def towncrierref05_Groups.j1 : Nat → Int → Bool → Option (ByteArray)
  | 0, _, _ => none
  | k + 1, x3, x15 => if x15 = true then (some (⟨#[88]⟩ : ByteArray)) else (if x3 = 128 then (towncrierref05_Groups.j2 k x3 (x3 == 128)) else (if x3 = 131 then (towncrierref05_Groups.j2 k x3 (x3 == 131)) else (towncrierref05_Groups.j2 k x3 (x3 == 135))))
def towncrierref05_Groups.j2 : Nat → Int → Bool → Option (ByteArray)
  | 0, _, _ => none
  | k + 1, x3, x18 => if x18 = true then (some (⟨#[67, 65, 83, 85, 68]⟩ : ByteArray)) else (if x3 = 129 then (towncrierref05_Groups.j3 k x3 (x3 == 129)) else (if x3 = 130 then (towncrierref05_Groups.j3 k x3 (x3 == 130)) else (if x3 = 137 then (towncrierref05_Groups.j3 k x3 (x3 == 137)) else (if x3 = 140 then (towncrierref05_Groups.j3 k x3 (x3 == 140)) else (if x3 = 149 then (towncrierref05_Groups.j3 k x3 (x3 == 149)) else (if x3 = 154 then (towncrierref05_Groups.j3 k x3 (x3 == 154)) else (if x3 = 155 then (towncrierref05_Groups.j3 k x3 (x3 == 155)) else (if x3 = 156 then (towncrierref05_Groups.j3 k x3 (x3 == 156)) else (if x3 = 157 then (towncrierref05_Groups.j3 k x3 (x3 == 157)) else (towncrierref05_Groups.j3 k x3 (x3 == 159)))))))))))
def towncrierref05_Groups.j3 : Nat → Int → Bool → Option (ByteArray)
  | 0, _, _ => none
  | k + 1, x3, x22 => if x22 = true then (some (⟨#[67, 68]⟩ : ByteArray)) else (if x3 = 132 then (towncrierref05_Groups.j4 k x3 (x3 == 132)) else (if x3 = 133 then (towncrierref05_Groups.j4 k x3 (x3 == 133)) else (if x3 = 134 then (towncrierref05_Groups.j4 k x3 (x3 == 134)) else (if x3 = 136 then (towncrierref05_Groups.j4 k x3 (x3 == 136)) else (towncrierref05_Groups.j4 k x3 (x3 == 138))))))
def towncrierref05_Groups.j4 : Nat → Int → Bool → Option (ByteArray)
  | 0, _, _ => none
  | k + 1, x3, x33 => if x33 = true then (some (⟨#[67]⟩ : ByteArray)) else (if x3 = 139 then (towncrierref05_Groups.j5 k x3 (x3 == 139)) else (if x3 = 141 then (towncrierref05_Groups.j5 k x3 (x3 == 141)) else (if x3 = 142 then (towncrierref05_Groups.j5 k x3 (x3 == 142)) else (if x3 = 147 then (towncrierref05_Groups.j5 k x3 (x3 == 147)) else (if x3 = 148 then (towncrierref05_Groups.j5 k x3 (x3 == 148)) else (if x3 = 150 then (towncrierref05_Groups.j5 k x3 (x3 == 150)) else (if x3 = 152 then (towncrierref05_Groups.j5 k x3 (x3 == 152)) else (towncrierref05_Groups.j5 k x3 (x3 == 160)))))))))
def towncrierref05_Groups.j5 : Nat → Int → Bool → Option (ByteArray)
  | 0, _, _ => none
  | k + 1, x3, x39 => if x39 = true then (some (⟨#[68]⟩ : ByteArray)) else (if x3 = 143 then (some (⟨#[83, 85, 68]⟩ : ByteArray)) else (if x3 = 144 then (towncrierref05_Groups.j6 k x3 (x3 == 144)) else (towncrierref05_Groups.j6 k x3 (x3 == 153))))
def towncrierref05_Groups.j6 : Nat → Int → Bool → Option (ByteArray)
  | 0, _, _ => none
  | k + 1, x3, x50 => if x50 = true then (some (⟨#[67, 65, 68]⟩ : ByteArray)) else (if x3 = 145 then (some (⟨#[65, 83, 85]⟩ : ByteArray)) else (if x3 = 146 then (some (⟨#[82]⟩ : ByteArray)) else (if x3 = 151 then (some (⟨#[67, 65, 83, 68]⟩ : ByteArray)) else (if x3 = 158 then (some (⟨#[83, 68]⟩ : ByteArray)) else (if x3 = 161 then (some (⟨#[83, 68]⟩ : ByteArray)) else (if x3 = 162 then (some (⟨#[83, 68]⟩ : ByteArray)) else (some (⟨#[]⟩ : ByteArray))))))))
end
def towncrierref05_Groups.f (k : Nat) (a0 : Int) : Option (ByteArray) := if a0 = 0 then (some (⟨#[67, 65, 82, 83, 85, 68, 88]⟩ : ByteArray)) else (if a0 = 1 then (towncrierref05_Groups.j0 k a0 (a0 == 1)) else (towncrierref05_Groups.j0 k a0 (a0 == 2)))
theorem towncrierref05_Groups.mono_l : ∀ k, (∀ y0 y1, LeO (towncrierref05_Groups.j0 k y0 y1) (towncrierref05_Groups.j0 (k + 1) y0 y1)) ∧ (∀ y0 y1, LeO (towncrierref05_Groups.j1 k y0 y1) (towncrierref05_Groups.j1 (k + 1) y0 y1)) ∧ (∀ y0 y1, LeO (towncrierref05_Groups.j2 k y0 y1) (towncrierref05_Groups.j2 (k + 1) y0 y1)) ∧ (∀ y0 y1, LeO (towncrierref05_Groups.j3 k y0 y1) (towncrierref05_Groups.j3 (k + 1) y0 y1)) ∧ (∀ y0 y1, LeO (towncrierref05_Groups.j4 k y0 y1) (towncrierref05_Groups.j4 (k + 1) y0 y1)) ∧ (∀ y0 y1, LeO (towncrierref05_Groups.j5 k y0 y1) (towncrierref05_Groups.j5 (k + 1) y0 y1)) ∧ (∀ y0 y1, LeO (towncrierref05_Groups.j6 k y0 y1) (towncrierref05_Groups.j6 (k + 1) y0 y1))
  | 0 => ⟨fun _ _ r h => by simp [towncrierref05_Groups.j0] at h, fun _ _ r h => by simp [towncrierref05_Groups.j1] at h, fun _ _ r h => by simp [towncrierref05_Groups.j2] at h, fun _ _ r h => by simp [towncrierref05_Groups.j3] at h, fun _ _ r h => by simp [towncrierref05_Groups.j4] at h, fun _ _ r h => by simp [towncrierref05_Groups.j5] at h, fun _ _ r h => by simp [towncrierref05_Groups.j6] at h⟩
  | k + 1 => by
    obtain ⟨ih0, ih1, ih2, ih3, ih4, ih5, ih6⟩ := towncrierref05_Groups.mono_l k
    refine ⟨?_, ?_, ?_, ?_, ?_, ?_, ?_⟩
    · intro y0 y1
      unfold towncrierref05_Groups.j0
      repeat' first
      | (with_reducible exact ih0 _ _)
      | (with_reducible exact ih1 _ _)
      | (with_reducible exact ih2 _ _)
      | (with_reducible exact ih3 _ _)
      | (with_reducible exact ih4 _ _)
      | (with_reducible exact ih5 _ _)
      | (with_reducible exact ih6 _ _)
      | (with_reducible exact LeO.refl _)
      | (with_reducible exact LeO.none _)
      | (with_reducible refine LeO.ite ?_ ?_)
      | (with_reducible refine LeO.bind ?_ (fun _ => ?_))
      | exact ih0 _ _
      | exact ih1 _ _
      | exact ih2 _ _
      | exact ih3 _ _
      | exact ih4 _ _
      | exact ih5 _ _
      | exact ih6 _ _
      | exact LeO.none _
      | refine LeO.ite ?_ ?_
      | refine LeO.bind ?_ (fun _ => ?_)
    · intro y0 y1
      unfold towncrierref05_Groups.j1
      repeat' first
      | (with_reducible exact ih0 _ _)
      | (with_reducible exact ih1 _ _)
      | (with_reducible exact ih2 _ _)
      | (with_reducible exact ih3 _ _)
      | (with_reducible exact ih4 _ _)
      | (with_reducible exact ih5 _ _)
      | (with_reducible exact ih6 _ _)
      | (with_reducible exact LeO.refl _)
      | (with_reducible exact LeO.none _)
      | (with_reducible refine LeO.ite ?_ ?_)
      | (with_reducible refine LeO.bind ?_ (fun _ => ?_))
      | exact ih0 _ _
      | exact ih1 _ _
      | exact ih2 _ _
      | exact ih3 _ _
      | exact ih4 _ _
      | exact ih5 _ _
      | exact ih6 _ _
      | exact LeO.none _
      | refine LeO.ite ?_ ?_
      | refine LeO.bind ?_ (fun _ => ?_)
    · intro y0 y1
      unfold towncrierref05_Groups.j2
      repeat' first
      | (with_reducible exact ih0 _ _)
      | (with_reducible exact ih1 _ _)
      | (with_reducible exact ih2 _ _)
      | (with_reducible exact ih3 _ _)
      | (with_reducible exact ih4 _ _)
      | (with_reducible exact ih5 _ _)
      | (with_reducible exact ih6 _ _)
      | (with_reducible exact LeO.refl _)
      | (with_reducible exact LeO.none _)
      | (with_reducible refine LeO.ite ?_ ?_)
      | (with_reducible refine LeO.bind ?_ (fun _ => ?_))
      | exact ih0 _ _
      | exact ih1 _ _
      | exact ih2 _ _
      | exact ih3 _ _
      | exact ih4 _ _
      | exact ih5 _ _
      | exact ih6 _ _
      | exact LeO.none _
      | refine LeO.ite ?_ ?_
      | refine LeO.bind ?_ (fun _ => ?_)
    · intro y0 y1
      unfold towncrierref05_Groups.j3
      repeat' first
      | (with_reducible exact ih0 _ _)
      | (with_reducible exact ih1 _ _)
      | (with_reducible exact ih2 _ _)
      | (with_reducible exact ih3 _ _)
      | (with_reducible exact ih4 _ _)
      | (with_reducible exact ih5 _ _)
      | (with_reducible exact ih6 _ _)
      | (with_reducible exact LeO.refl _)
      | (with_reducible exact LeO.none _)
      | (with_reducible refine LeO.ite ?_ ?_)
      | (with_reducible refine LeO.bind ?_ (fun _ => ?_))
      | exact ih0 _ _
      | exact ih1 _ _
      | exact ih2 _ _
      | exact ih3 _ _
      | exact ih4 _ _
      | exact ih5 _ _
      | exact ih6 _ _
      | exact LeO.none _
      | refine LeO.ite ?_ ?_
      | refine LeO.bind ?_ (fun _ => ?_)
    · intro y0 y1
      unfold towncrierref05_Groups.j4
      repeat' first
      | (with_reducible exact ih0 _ _)
      | (with_reducible exact ih1 _ _)
      | (with_reducible exact ih2 _ _)
      | (with_reducible exact ih3 _ _)
      | (with_reducible exact ih4 _ _)
      | (with_reducible exact ih5 _ _)
      | (with_reducible exact ih6 _ _)
      | (with_reducible exact LeO.refl _)
      | (with_reducible exact LeO.none _)
      | (with_reducible refine LeO.ite ?_ ?_)
      | (with_reducible refine LeO.bind ?_ (fun _ => ?_))
      | exact ih0 _ _
      | exact ih1 _ _
      | exact ih2 _ _
      | exact ih3 _ _
      | exact ih4 _ _
      | exact ih5 _ _
      | exact ih6 _ _
      | exact LeO.none _
      | refine LeO.ite ?_ ?_
      | refine LeO.bind ?_ (fun _ => ?_)
    · intro y0 y1
      unfold towncrierref05_Groups.j5
      repeat' first
      | (with_reducible exact ih0 _ _)
      | (with_reducible exact ih1 _ _)
      | (with_reducible exact ih2 _ _)
      | (with_reducible exact ih3 _ _)
      | (with_reducible exact ih4 _ _)
      | (with_reducible exact ih5 _ _)
      | (with_reducible exact ih6 _ _)
      | (with_reducible exact LeO.refl _)
      | (with_reducible exact LeO.none _)
      | (with_reducible refine LeO.ite ?_ ?_)
      | (with_reducible refine LeO.bind ?_ (fun _ => ?_))
      | exact ih0 _ _
      | exact ih1 _ _
      | exact ih2 _ _
      | exact ih3 _ _
      | exact ih4 _ _
      | exact ih5 _ _
      | exact ih6 _ _
      | exact LeO.none _
      | refine LeO.ite ?_ ?_
      | refine LeO.bind ?_ (fun _ => ?_)
    · intro y0 y1
      unfold towncrierref05_Groups.j6
      repeat' first
      | (with_reducible exact ih0 _ _)
      | (with_reducible exact ih1 _ _)
      | (with_reducible exact ih2 _ _)
      | (with_reducible exact ih3 _ _)
      | (with_reducible exact ih4 _ _)
      | (with_reducible exact ih5 _ _)
      | (with_reducible exact ih6 _ _)
      | (with_reducible exact LeO.refl _)
      | (with_reducible exact LeO.none _)
      | (with_reducible refine LeO.ite ?_ ?_)
      | (with_reducible refine LeO.bind ?_ (fun _ => ?_))
      | exact ih0 _ _
      | exact ih1 _ _
      | exact ih2 _ _
      | exact ih3 _ _
      | exact ih4 _ _
      | exact ih5 _ _
      | exact ih6 _ _
      | exact LeO.none _
      | refine LeO.ite ?_ ?_
      | refine LeO.bind ?_ (fun _ => ?_)
theorem towncrierref05_Groups.mono : ∀ a0 k, LeO (towncrierref05_Groups.f k a0) (towncrierref05_Groups.f (k + 1) a0) := by
  intro a0 k
  obtain ⟨ih0, ih1, ih2, ih3, ih4, ih5, ih6⟩ := towncrierref05_Groups.mono_l k
  unfold towncrierref05_Groups.f
  repeat' first
      | (with_reducible exact ih0 _ _)
      | (with_reducible exact ih1 _ _)
      | (with_reducible exact ih2 _ _)
      | (with_reducible exact ih3 _ _)
      | (with_reducible exact ih4 _ _)
      | (with_reducible exact ih5 _ _)
      | (with_reducible exact ih6 _ _)
      | (with_reducible exact LeO.refl _)
      | (with_reducible exact LeO.none _)
      | (with_reducible refine LeO.ite ?_ ?_)
      | (with_reducible refine LeO.bind ?_ (fun _ => ?_))
      | exact ih0 _ _
      | exact ih1 _ _
      | exact ih2 _ _
      | exact ih3 _ _
      | exact ih4 _ _
      | exact ih5 _ _
      | exact ih6 _ _
      | exact LeO.none _
      | refine LeO.ite ?_ ?_
      | refine LeO.bind ?_ (fun _ => ?_)
set_option maxHeartbeats 8000000 in
set_option maxRecDepth 100000 in
theorem towncrierref05_Groups.calls (k : Nat) (a0 : Int) (r : ByteArray) (w : World) (h : towncrierref05_Groups.f k a0 = some r) :
    Calls Try.prog 45 #[.int .i64 a0] w fun e w' => e = .returned (.string r) ∧ Drawn0 w w' := by
  have H : (if a0 = 0 then (some (⟨#[67, 65, 82, 83, 85, 68, 88]⟩ : ByteArray)) else (if a0 = 1 then (towncrierref05_Groups.j0 k a0 (a0 == 1)) else (towncrierref05_Groups.j0 k a0 (a0 == 2)))) = some r := h
  clear h
  by_cases c2 : a0 = 0
  · rw [if_pos c2] at H
    have c2b0 : (a0 == 0) = true := beq_iff_eq.mpr c2
    have c2b1 : (a0 != 0) = false := bne_eq_false_iff_eq.mpr c2
    clear c2
    obtain rfl := Option.some.inj H
    go_enter Try.func45, Try.ntmps45
    go_wp2
    go_ret
    exact ⟨by first | rfl | (simp; done) | (simp [*]; done), by repeat (first | exact Drawn0.refl _ | apply Drawn0.step)⟩
  · rw [if_neg c2] at H
    have c2b0 : (a0 == 0) = false := beq_eq_false_iff_ne.mpr c2
    have c2b1 : (a0 != 0) = true := bne_iff_ne.mpr c2
    have HC3 := Aside0.mk H
    clear H
    go_enter Try.func45, Try.ntmps45
    go_upto_if 6 with (fail)
    go_cut [6] (fun v6 wc => ∃ (kq : Nat) (x6_2 : Bool), v6 = .bool x6_2 ∧ Aside0 (towncrierref05_Groups.j0 kq a0 x6_2 = some r) ∧ Aside0 (kq ≤ k) ∧ Drawn0 w wc)
    case first =>
      have H := HC3.out
      clear HC3
      by_cases c4 : a0 = 1
      · rw [if_pos c4] at H
        have c4b0 : (a0 == 1) = true := beq_iff_eq.mpr c4
        have c4b1 : (a0 != 1) = false := bne_eq_false_iff_eq.mpr c4
        clear c4
        (first | rw [c4b0] | (simp only [i64_w, i32_w]; rw [c4b0]) | skip)
        have H' := Aside0.mk H
        clear H
        go_wp2
        go_meet
        case rel => exact ⟨_, ((a0 == 1)), (by first | rfl | (simp; done) | (simp [*]; done)), H', ⟨by first | omega | exact Nat.le_refl _⟩, by repeat (first | exact Drawn0.refl _ | apply Drawn0.step)⟩
      · rw [if_neg c4] at H
        have c4b0 : (a0 == 1) = false := beq_eq_false_iff_ne.mpr c4
        have c4b1 : (a0 != 1) = true := bne_iff_ne.mpr c4
        (first | rw [c4b0] | (simp only [i64_w, i32_w]; rw [c4b0]) | skip)
        have H' := Aside0.mk H
        clear H
        go_wp2
        go_meet
        case rel => exact ⟨_, ((a0 == 2)), (by first | rfl | (simp; done) | (simp [*]; done)), H', ⟨by first | omega | exact Nat.le_refl _⟩, by repeat (first | exact Drawn0.refl _ | apply Drawn0.step)⟩
    case rest =>
      clear HC3
      try clear c2
      try clear c2b0
      try clear c2b1
      try clear p2
      try clear c4
      try clear c4b0
      try clear c4b1
      obtain ⟨kq, x6_2, rfl, HA, HJ2, ⟨mc2, rfl⟩⟩ := hcut
      cases kq with
      | zero => exact absurd HA.out (by simp [towncrierref05_Groups.j0])
      | succ kj2 =>
        have H := HA.out
        clear HA
        simp only [towncrierref05_Groups.j0] at H
        by_cases c5 : x6_2 = true
        · subst c5
          have H1 : (some (⟨#[83]⟩ : ByteArray)) = some r := by rw [if_pos rfl] at H; exact H
          clear H
          have H := H1
          clear H1
          obtain rfl := Option.some.inj H
          go_wp2
          go_ret
          exact ⟨by first | rfl | (simp; done) | (simp [*]; done), by repeat (first | exact Drawn0.refl _ | apply Drawn0.step)⟩
        · replace c5 := Bool.eq_false_iff.mpr c5
          subst c5
          have H1 : (if a0 = 4 then (some (⟨#[68]⟩ : ByteArray)) else (if a0 = 16 then (some (⟨#[65]⟩ : ByteArray)) else (if a0 = 17 then (some (⟨#[85]⟩ : ByteArray)) else (if a0 = 24 then (towncrierref05_Groups.j1 kj2 a0 (a0 == 24)) else (towncrierref05_Groups.j1 kj2 a0 (a0 == 25)))))) = some r := by rw [if_neg (show ¬ (false = true) by decide)] at H; exact H
          clear H
          have H := H1
          clear H1
          by_cases c6 : a0 = 4
          · rw [if_pos c6] at H
            have c6b0 : (a0 == 4) = true := beq_iff_eq.mpr c6
            have c6b1 : (a0 != 4) = false := bne_eq_false_iff_eq.mpr c6
            clear c6
            obtain rfl := Option.some.inj H
            go_wp2
            go_ret
            exact ⟨by first | rfl | (simp; done) | (simp [*]; done), by repeat (first | exact Drawn0.refl _ | apply Drawn0.step)⟩
          · rw [if_neg c6] at H
            have c6b0 : (a0 == 4) = false := beq_eq_false_iff_ne.mpr c6
            have c6b1 : (a0 != 4) = true := bne_iff_ne.mpr c6
            by_cases c7 : a0 = 16
            · rw [if_pos c7] at H
              have c7b0 : (a0 == 16) = true := beq_iff_eq.mpr c7
              have c7b1 : (a0 != 16) = false := bne_eq_false_iff_eq.mpr c7
              clear c7
              obtain rfl := Option.some.inj H
              go_wp2
              go_ret
              exact ⟨by first | rfl | (simp; done) | (simp [*]; done), by repeat (first | exact Drawn0.refl _ | apply Drawn0.step)⟩
            · rw [if_neg c7] at H
              have c7b0 : (a0 == 16) = false := beq_eq_false_iff_ne.mpr c7
              have c7b1 : (a0 != 16) = true := bne_iff_ne.mpr c7
              by_cases c8 : a0 = 17
              · rw [if_pos c8] at H
                have c8b0 : (a0 == 17) = true := beq_iff_eq.mpr c8
                have c8b1 : (a0 != 17) = false := bne_eq_false_iff_eq.mpr c8
                clear c8
                obtain rfl := Option.some.inj H
                go_wp2
                go_ret
                exact ⟨by first | rfl | (simp; done) | (simp [*]; done), by repeat (first | exact Drawn0.refl _ | apply Drawn0.step)⟩
              · rw [if_neg c8] at H
                have c8b0 : (a0 == 17) = false := beq_eq_false_iff_ne.mpr c8
                have c8b1 : (a0 != 17) = true := bne_iff_ne.mpr c8
                have HC9 := Aside0.mk H
                clear H
                go_upto_if 15 with (fail)
                go_cut [15] (fun v15 wc => ∃ (kq : Nat) (x15_8 : Bool), v15 = .bool x15_8 ∧ Aside0 (towncrierref05_Groups.j1 kq a0 x15_8 = some r) ∧ Aside0 (kq ≤ kj2) ∧ Drawn0 w wc)
                case first =>
                  have H := HC9.out
                  clear HC9
                  by_cases c10 : a0 = 24
                  · rw [if_pos c10] at H
                    have c10b0 : (a0 == 24) = true := beq_iff_eq.mpr c10
                    have c10b1 : (a0 != 24) = false := bne_eq_false_iff_eq.mpr c10
                    clear c10
                    (first | rw [c10b0] | (simp only [i64_w, i32_w]; rw [c10b0]) | skip)
                    have H' := Aside0.mk H
                    clear H
                    go_wp2
                    go_meet
                    case rel => exact ⟨_, ((a0 == 24)), (by first | rfl | (simp; done) | (simp [*]; done)), H', ⟨by have := HJ2.out; first | omega | exact Nat.le_refl _⟩, by repeat (first | exact Drawn0.refl _ | apply Drawn0.step)⟩
                  · rw [if_neg c10] at H
                    have c10b0 : (a0 == 24) = false := beq_eq_false_iff_ne.mpr c10
                    have c10b1 : (a0 != 24) = true := bne_iff_ne.mpr c10
                    (first | rw [c10b0] | (simp only [i64_w, i32_w]; rw [c10b0]) | skip)
                    have H' := Aside0.mk H
                    clear H
                    go_wp2
                    go_meet
                    case rel => exact ⟨_, ((a0 == 25)), (by first | rfl | (simp; done) | (simp [*]; done)), H', ⟨by have := HJ2.out; first | omega | exact Nat.le_refl _⟩, by repeat (first | exact Drawn0.refl _ | apply Drawn0.step)⟩
                case rest =>
                  clear HC9
                  try clear c1
                  try clear c2
                  try clear c2b0
                  try clear c2b1
                  try clear p2
                  try clear c4
                  try clear c4b0
                  try clear c4b1
                  try clear c5
                  try clear c6
                  try clear c6b0
                  try clear c6b1
                  try clear c7
                  try clear c7b0
                  try clear c7b1
                  try clear c8
                  try clear c8b0
                  try clear c8b1
                  try clear c10
                  try clear c10b0
                  try clear c10b1
                  try clear p2
                  obtain ⟨kq, x15_8, rfl, HA, HJ8, ⟨mc8, rfl⟩⟩ := hcut
                  cases kq with
                  | zero => exact absurd HA.out (by simp [towncrierref05_Groups.j1])
                  | succ kj8 =>
                    have H := HA.out
                    clear HA
                    simp only [towncrierref05_Groups.j1] at H
                    by_cases c11 : x15_8 = true
                    · subst c11
                      have H1 : (some (⟨#[88]⟩ : ByteArray)) = some r := by rw [if_pos rfl] at H; exact H
                      clear H
                      have H := H1
                      clear H1
                      obtain rfl := Option.some.inj H
                      go_wp2
                      go_ret
                      exact ⟨by first | rfl | (simp; done) | (simp [*]; done), by repeat (first | exact Drawn0.refl _ | apply Drawn0.step)⟩
                    · replace c11 := Bool.eq_false_iff.mpr c11
                      subst c11
                      have H1 : (if a0 = 128 then (towncrierref05_Groups.j2 kj8 a0 (a0 == 128)) else (if a0 = 131 then (towncrierref05_Groups.j2 kj8 a0 (a0 == 131)) else (towncrierref05_Groups.j2 kj8 a0 (a0 == 135)))) = some r := by rw [if_neg (show ¬ (false = true) by decide)] at H; exact H
                      clear H
                      have H := H1
                      clear H1
                      have HC12 := Aside0.mk H
                      clear H
                      go_upto_if 18 with (fail)
                      go_cut [18] (fun v18 wc => ∃ (kq : Nat) (x18_11 : Bool), v18 = .bool x18_11 ∧ Aside0 (towncrierref05_Groups.j2 kq a0 x18_11 = some r) ∧ Aside0 (kq ≤ kj8) ∧ Drawn0 w wc)
                      case first =>
                        have H := HC12.out
                        clear HC12
                        by_cases c13 : a0 = 128
                        · rw [if_pos c13] at H
                          have c13b0 : (a0 == 128) = true := beq_iff_eq.mpr c13
                          have c13b1 : (a0 != 128) = false := bne_eq_false_iff_eq.mpr c13
                          clear c13
                          (first | rw [c13b0] | (simp only [i64_w, i32_w]; rw [c13b0]) | skip)
                          have H' := Aside0.mk H
                          clear H
                          go_wp2
                          go_meet
                          case rel => exact ⟨_, ((a0 == 128)), (by first | rfl | (simp; done) | (simp [*]; done)), H', ⟨by have := HJ2.out; have := HJ8.out; first | omega | exact Nat.le_refl _⟩, by repeat (first | exact Drawn0.refl _ | apply Drawn0.step)⟩
                        · rw [if_neg c13] at H
                          have c13b0 : (a0 == 128) = false := beq_eq_false_iff_ne.mpr c13
                          have c13b1 : (a0 != 128) = true := bne_iff_ne.mpr c13
                          (first | rw [c13b0] | (simp only [i64_w, i32_w]; rw [c13b0]) | skip)
                          by_cases c14 : a0 = 131
                          · rw [if_pos c14] at H
                            have c14b0 : (a0 == 131) = true := beq_iff_eq.mpr c14
                            have c14b1 : (a0 != 131) = false := bne_eq_false_iff_eq.mpr c14
                            clear c14
                            have H' := Aside0.mk H
                            clear H
                            go_wp2
                            go_meet
                            case rel => exact ⟨_, ((a0 == 131)), (by first | rfl | (simp; done) | (simp [*]; done)), H', ⟨by have := HJ2.out; have := HJ8.out; first | omega | exact Nat.le_refl _⟩, by repeat (first | exact Drawn0.refl _ | apply Drawn0.step)⟩
                          · rw [if_neg c14] at H
                            have c14b0 : (a0 == 131) = false := beq_eq_false_iff_ne.mpr c14
                            have c14b1 : (a0 != 131) = true := bne_iff_ne.mpr c14
                            have H' := Aside0.mk H
                            clear H
                            go_wp2
                            go_meet
                            case rel => exact ⟨_, ((a0 == 135)), (by first | rfl | (simp; done) | (simp [*]; done)), H', ⟨by have := HJ2.out; have := HJ8.out; first | omega | exact Nat.le_refl _⟩, by repeat (first | exact Drawn0.refl _ | apply Drawn0.step)⟩
                      case rest =>
                        clear HC12
                        try clear c1
                        try clear c2
                        try clear c2b0
                        try clear c2b1
                        try clear p2
                        try clear c4
                        try clear c4b0
                        try clear c4b1
                        try clear c5
                        try clear c6
                        try clear c6b0
                        try clear c6b1
                        try clear c7
                        try clear c7b0
                        try clear c7b1
                        try clear c8
                        try clear c8b0
                        try clear c8b1
                        try clear c10
                        try clear c10b0
                        try clear c10b1
                        try clear c11
                        try clear c13
                        try clear c13b0
                        try clear c13b1
                        try clear c14
                        try clear c14b0
                        try clear c14b1
                        try clear p2
                        obtain ⟨kq, x18_11, rfl, HA, HJ11, ⟨mc11, rfl⟩⟩ := hcut
                        cases kq with
                        | zero => exact absurd HA.out (by simp [towncrierref05_Groups.j2])
                        | succ kj11 =>
                          have H := HA.out
                          clear HA
                          simp only [towncrierref05_Groups.j2] at H
                          by_cases c15 : x18_11 = true
                          · subst c15
                            have H1 : (some (⟨#[67, 65, 83, 85, 68]⟩ : ByteArray)) = some r := by rw [if_pos rfl] at H; exact H
                            clear H
                            have H := H1
                            clear H1
                            obtain rfl := Option.some.inj H
                            go_wp2
                            go_ret
                            exact ⟨by first | rfl | (simp; done) | (simp [*]; done), by repeat (first | exact Drawn0.refl _ | apply Drawn0.step)⟩
                          · replace c15 := Bool.eq_false_iff.mpr c15
                            subst c15
                            have H1 : (if a0 = 129 then (towncrierref05_Groups.j3 kj11 a0 (a0 == 129)) else (if a0 = 130 then (towncrierref05_Groups.j3 kj11 a0 (a0 == 130)) else (if a0 = 137 then (towncrierref05_Groups.j3 kj11 a0 (a0 == 137)) else (if a0 = 140 then (towncrierref05_Groups.j3 kj11 a0 (a0 == 140)) else (if a0 = 149 then (towncrierref05_Groups.j3 kj11 a0 (a0 == 149)) else (if a0 = 154 then (towncrierref05_Groups.j3 kj11 a0 (a0 == 154)) else (if a0 = 155 then (towncrierref05_Groups.j3 kj11 a0 (a0 == 155)) else (if a0 = 156 then (towncrierref05_Groups.j3 kj11 a0 (a0 == 156)) else (if a0 = 157 then (towncrierref05_Groups.j3 kj11 a0 (a0 == 157)) else (towncrierref05_Groups.j3 kj11 a0 (a0 == 159))))))))))) = some r := by rw [if_neg (show ¬ (false = true) by decide)] at H; exact H
                            clear H
                            have H := H1
                            clear H1
                            have HC16 := Aside0.mk H
                            clear H
                            go_upto_if 22 with (fail)
                            go_cut [22] (fun v22 wc => ∃ (kq : Nat) (x22_15 : Bool), v22 = .bool x22_15 ∧ Aside0 (towncrierref05_Groups.j3 kq a0 x22_15 = some r) ∧ Aside0 (kq ≤ kj11) ∧ Drawn0 w wc)
                            case first =>
                              have H := HC16.out
                              clear HC16
                              by_cases c17 : a0 = 129
                              · rw [if_pos c17] at H
                                have c17b0 : (a0 == 129) = true := beq_iff_eq.mpr c17
                                have c17b1 : (a0 != 129) = false := bne_eq_false_iff_eq.mpr c17
                                clear c17
                                (first | rw [c17b0] | (simp only [i64_w, i32_w]; rw [c17b0]) | skip)
                                have H' := Aside0.mk H
                                clear H
                                go_wp2
                                go_meet
                                case rel => exact ⟨_, ((a0 == 129)), (by first | rfl | (simp; done) | (simp [*]; done)), H', ⟨by have := HJ2.out; have := HJ8.out; have := HJ11.out; first | omega | exact Nat.le_refl _⟩, by repeat (first | exact Drawn0.refl _ | apply Drawn0.step)⟩
                              · rw [if_neg c17] at H
                                have c17b0 : (a0 == 129) = false := beq_eq_false_iff_ne.mpr c17
                                have c17b1 : (a0 != 129) = true := bne_iff_ne.mpr c17
                                (first | rw [c17b0] | (simp only [i64_w, i32_w]; rw [c17b0]) | skip)
                                by_cases c18 : a0 = 130
                                · rw [if_pos c18] at H
                                  have c18b0 : (a0 == 130) = true := beq_iff_eq.mpr c18
                                  have c18b1 : (a0 != 130) = false := bne_eq_false_iff_eq.mpr c18
                                  clear c18
                                  have H' := Aside0.mk H
                                  clear H
                                  go_wp2
                                  go_meet
                                  case rel => exact ⟨_, ((a0 == 130)), (by first | rfl | (simp; done) | (simp [*]; done)), H', ⟨by have := HJ2.out; have := HJ8.out; have := HJ11.out; first | omega | exact Nat.le_refl _⟩, by repeat (first | exact Drawn0.refl _ | apply Drawn0.step)⟩
                                · rw [if_neg c18] at H
                                  have c18b0 : (a0 == 130) = false := beq_eq_false_iff_ne.mpr c18
                                  have c18b1 : (a0 != 130) = true := bne_iff_ne.mpr c18
                                  by_cases c19 : a0 = 137
                                  · rw [if_pos c19] at H
                                    have c19b0 : (a0 == 137) = true := beq_iff_eq.mpr c19
                                    have c19b1 : (a0 != 137) = false := bne_eq_false_iff_eq.mpr c19
                                    clear c19
                                    have H' := Aside0.mk H
                                    clear H
                                    go_wp2
                                    go_meet
                                    case rel => exact ⟨_, ((a0 == 137)), (by first | rfl | (simp; done) | (simp [*]; done)), H', ⟨by have := HJ2.out; have := HJ8.out; have := HJ11.out; first | omega | exact Nat.le_refl _⟩, by repeat (first | exact Drawn0.refl _ | apply Drawn0.step)⟩
                                  · rw [if_neg c19] at H
                                    have c19b0 : (a0 == 137) = false := beq_eq_false_iff_ne.mpr c19
                                    have c19b1 : (a0 != 137) = true := bne_iff_ne.mpr c19
                                    by_cases c20 : a0 = 140
                                    · rw [if_pos c20] at H
                                      have c20b0 : (a0 == 140) = true := beq_iff_eq.mpr c20
                                      have c20b1 : (a0 != 140) = false := bne_eq_false_iff_eq.mpr c20
                                      clear c20
                                      have H' := Aside0.mk H
                                      clear H
                                      go_wp2
                                      go_meet
                                      case rel => exact ⟨_, ((a0 == 140)), (by first | rfl | (simp; done) | (simp [*]; done)), H', ⟨by have := HJ2.out; have := HJ8.out; have := HJ11.out; first | omega | exact Nat.le_refl _⟩, by repeat (first | exact Drawn0.refl _ | apply Drawn0.step)⟩
                                    · rw [if_neg c20] at H
                                      have c20b0 : (a0 == 140) = false := beq_eq_false_iff_ne.mpr c20
                                      have c20b1 : (a0 != 140) = true := bne_iff_ne.mpr c20
                                      by_cases c21 : a0 = 149
                                      · rw [if_pos c21] at H
                                        have c21b0 : (a0 == 149) = true := beq_iff_eq.mpr c21
                                        have c21b1 : (a0 != 149) = false := bne_eq_false_iff_eq.mpr c21
                                        clear c21
                                        have H' := Aside0.mk H
                                        clear H
                                        go_wp2
                                        go_meet
                                        case rel => exact ⟨_, ((a0 == 149)), (by first | rfl | (simp; done) | (simp [*]; done)), H', ⟨by have := HJ2.out; have := HJ8.out; have := HJ11.out; first | omega | exact Nat.le_refl _⟩, by repeat (first | exact Drawn0.refl _ | apply Drawn0.step)⟩
                                      · rw [if_neg c21] at H
                                        have c21b0 : (a0 == 149) = false := beq_eq_false_iff_ne.mpr c21
                                        have c21b1 : (a0 != 149) = true := bne_iff_ne.mpr c21
                                        by_cases c22 : a0 = 154
                                        · rw [if_pos c22] at H
                                          have c22b0 : (a0 == 154) = true := beq_iff_eq.mpr c22
                                          have c22b1 : (a0 != 154) = false := bne_eq_false_iff_eq.mpr c22
                                          clear c22
                                          have H' := Aside0.mk H
                                          clear H
                                          go_wp2
                                          go_meet
                                          case rel => exact ⟨_, ((a0 == 154)), (by first | rfl | (simp; done) | (simp [*]; done)), H', ⟨by have := HJ2.out; have := HJ8.out; have := HJ11.out; first | omega | exact Nat.le_refl _⟩, by repeat (first | exact Drawn0.refl _ | apply Drawn0.step)⟩
                                        · rw [if_neg c22] at H
                                          have c22b0 : (a0 == 154) = false := beq_eq_false_iff_ne.mpr c22
                                          have c22b1 : (a0 != 154) = true := bne_iff_ne.mpr c22
                                          by_cases c23 : a0 = 155
                                          · rw [if_pos c23] at H
                                            have c23b0 : (a0 == 155) = true := beq_iff_eq.mpr c23
                                            have c23b1 : (a0 != 155) = false := bne_eq_false_iff_eq.mpr c23
                                            clear c23
                                            have H' := Aside0.mk H
                                            clear H
                                            go_wp2
                                            go_meet
                                            case rel => exact ⟨_, ((a0 == 155)), (by first | rfl | (simp; done) | (simp [*]; done)), H', ⟨by have := HJ2.out; have := HJ8.out; have := HJ11.out; first | omega | exact Nat.le_refl _⟩, by repeat (first | exact Drawn0.refl _ | apply Drawn0.step)⟩
                                          · rw [if_neg c23] at H
                                            have c23b0 : (a0 == 155) = false := beq_eq_false_iff_ne.mpr c23
                                            have c23b1 : (a0 != 155) = true := bne_iff_ne.mpr c23
                                            by_cases c24 : a0 = 156
                                            · rw [if_pos c24] at H
                                              have c24b0 : (a0 == 156) = true := beq_iff_eq.mpr c24
                                              have c24b1 : (a0 != 156) = false := bne_eq_false_iff_eq.mpr c24
                                              clear c24
                                              have H' := Aside0.mk H
                                              clear H
                                              go_wp2
                                              go_meet
                                              case rel => exact ⟨_, ((a0 == 156)), (by first | rfl | (simp; done) | (simp [*]; done)), H', ⟨by have := HJ2.out; have := HJ8.out; have := HJ11.out; first | omega | exact Nat.le_refl _⟩, by repeat (first | exact Drawn0.refl _ | apply Drawn0.step)⟩
                                            · rw [if_neg c24] at H
                                              have c24b0 : (a0 == 156) = false := beq_eq_false_iff_ne.mpr c24
                                              have c24b1 : (a0 != 156) = true := bne_iff_ne.mpr c24
                                              by_cases c25 : a0 = 157
                                              · rw [if_pos c25] at H
                                                have c25b0 : (a0 == 157) = true := beq_iff_eq.mpr c25
                                                have c25b1 : (a0 != 157) = false := bne_eq_false_iff_eq.mpr c25
                                                clear c25
                                                have H' := Aside0.mk H
                                                clear H
                                                go_wp2
                                                go_meet
                                                case rel => exact ⟨_, ((a0 == 157)), (by first | rfl | (simp; done) | (simp [*]; done)), H', ⟨by have := HJ2.out; have := HJ8.out; have := HJ11.out; first | omega | exact Nat.le_refl _⟩, by repeat (first | exact Drawn0.refl _ | apply Drawn0.step)⟩
                                              · rw [if_neg c25] at H
                                                have c25b0 : (a0 == 157) = false := beq_eq_false_iff_ne.mpr c25
                                                have c25b1 : (a0 != 157) = true := bne_iff_ne.mpr c25
                                                have H' := Aside0.mk H
                                                clear H
                                                go_wp2
                                                go_meet
                                                case rel => exact ⟨_, ((a0 == 159)), (by first | rfl | (simp; done) | (simp [*]; done)), H', ⟨by have := HJ2.out; have := HJ8.out; have := HJ11.out; first | omega | exact Nat.le_refl _⟩, by repeat (first | exact Drawn0.refl _ | apply Drawn0.step)⟩
                            case rest =>
                              clear HC16
                              try clear c1
                              try clear c2
                              try clear c2b0
                              try clear c2b1
                              try clear p2
                              try clear c4
                              try clear c4b0
                              try clear c4b1
                              try clear c5
                              try clear c6
                              try clear c6b0
                              try clear c6b1
                              try clear c7
                              try clear c7b0
                              try clear c7b1
                              try clear c8
                              try clear c8b0
                              try clear c8b1
                              try clear c10
                              try clear c10b0
                              try clear c10b1
                              try clear c11
                              try clear c13
                              try clear c13b0
                              try clear c13b1
                              try clear c14
                              try clear c14b0
                              try clear c14b1
                              try clear c15
                              try clear c17
                              try clear c17b0
                              try clear c17b1
                              try clear c18
                              try clear c18b0
                              try clear c18b1
                              try clear c19
                              try clear c19b0
                              try clear c19b1
                              try clear c20
                              try clear c20b0
                              try clear c20b1
                              try clear c21
                              try clear c21b0
                              try clear c21b1
                              try clear c22
                              try clear c22b0
                              try clear c22b1
                              try clear c23
                              try clear c23b0
                              try clear c23b1
                              try clear c24
                              try clear c24b0
                              try clear c24b1
                              try clear c25
                              try clear c25b0
                              try clear c25b1
                              try clear p2
                              obtain ⟨kq, x22_15, rfl, HA, HJ15, ⟨mc15, rfl⟩⟩ := hcut
                              cases kq with
                              | zero => exact absurd HA.out (by simp [towncrierref05_Groups.j3])
                              | succ kj15 =>
                                have H := HA.out
                                clear HA
                                simp only [towncrierref05_Groups.j3] at H
                                by_cases c26 : x22_15 = true
                                · subst c26
                                  have H1 : (some (⟨#[67, 68]⟩ : ByteArray)) = some r := by rw [if_pos rfl] at H; exact H
                                  clear H
                                  have H := H1
                                  clear H1
                                  obtain rfl := Option.some.inj H
                                  go_wp2
                                  go_ret
                                  exact ⟨by first | rfl | (simp; done) | (simp [*]; done), by repeat (first | exact Drawn0.refl _ | apply Drawn0.step)⟩
                                · replace c26 := Bool.eq_false_iff.mpr c26
                                  subst c26
                                  have H1 : (if a0 = 132 then (towncrierref05_Groups.j4 kj15 a0 (a0 == 132)) else (if a0 = 133 then (towncrierref05_Groups.j4 kj15 a0 (a0 == 133)) else (if a0 = 134 then (towncrierref05_Groups.j4 kj15 a0 (a0 == 134)) else (if a0 = 136 then (towncrierref05_Groups.j4 kj15 a0 (a0 == 136)) else (towncrierref05_Groups.j4 kj15 a0 (a0 == 138)))))) = some r := by rw [if_neg (show ¬ (false = true) by decide)] at H; exact H
                                  clear H
                                  have H := H1
                                  clear H1
                                  have HC27 := Aside0.mk H
                                  clear H
                                  go_upto_if 33 with (fail)
                                  go_cut [33] (fun v33 wc => ∃ (kq : Nat) (x33_26 : Bool), v33 = .bool x33_26 ∧ Aside0 (towncrierref05_Groups.j4 kq a0 x33_26 = some r) ∧ Aside0 (kq ≤ kj15) ∧ Drawn0 w wc)
                                  case first =>
                                    have H := HC27.out
                                    clear HC27
                                    by_cases c28 : a0 = 132
                                    · rw [if_pos c28] at H
                                      have c28b0 : (a0 == 132) = true := beq_iff_eq.mpr c28
                                      have c28b1 : (a0 != 132) = false := bne_eq_false_iff_eq.mpr c28
                                      clear c28
                                      (first | rw [c28b0] | (simp only [i64_w, i32_w]; rw [c28b0]) | skip)
                                      have H' := Aside0.mk H
                                      clear H
                                      go_wp2
                                      go_meet
                                      case rel => exact ⟨_, ((a0 == 132)), (by first | rfl | (simp; done) | (simp [*]; done)), H', ⟨by have := HJ2.out; have := HJ8.out; have := HJ11.out; have := HJ15.out; first | omega | exact Nat.le_refl _⟩, by repeat (first | exact Drawn0.refl _ | apply Drawn0.step)⟩
                                    · rw [if_neg c28] at H
                                      have c28b0 : (a0 == 132) = false := beq_eq_false_iff_ne.mpr c28
                                      have c28b1 : (a0 != 132) = true := bne_iff_ne.mpr c28
                                      (first | rw [c28b0] | (simp only [i64_w, i32_w]; rw [c28b0]) | skip)
                                      by_cases c29 : a0 = 133
                                      · rw [if_pos c29] at H
                                        have c29b0 : (a0 == 133) = true := beq_iff_eq.mpr c29
                                        have c29b1 : (a0 != 133) = false := bne_eq_false_iff_eq.mpr c29
                                        clear c29
                                        have H' := Aside0.mk H
                                        clear H
                                        go_wp2
                                        go_meet
                                        case rel => exact ⟨_, ((a0 == 133)), (by first | rfl | (simp; done) | (simp [*]; done)), H', ⟨by have := HJ2.out; have := HJ8.out; have := HJ11.out; have := HJ15.out; first | omega | exact Nat.le_refl _⟩, by repeat (first | exact Drawn0.refl _ | apply Drawn0.step)⟩
                                      · rw [if_neg c29] at H
                                        have c29b0 : (a0 == 133) = false := beq_eq_false_iff_ne.mpr c29
                                        have c29b1 : (a0 != 133) = true := bne_iff_ne.mpr c29
                                        by_cases c30 : a0 = 134
                                        · rw [if_pos c30] at H
                                          have c30b0 : (a0 == 134) = true := beq_iff_eq.mpr c30
                                          have c30b1 : (a0 != 134) = false := bne_eq_false_iff_eq.mpr c30
                                          clear c30
                                          have H' := Aside0.mk H
                                          clear H
                                          go_wp2
                                          go_meet
                                          case rel => exact ⟨_, ((a0 == 134)), (by first | rfl | (simp; done) | (simp [*]; done)), H', ⟨by have := HJ2.out; have := HJ8.out; have := HJ11.out; have := HJ15.out; first | omega | exact Nat.le_refl _⟩, by repeat (first | exact Drawn0.refl _ | apply Drawn0.step)⟩
                                        · rw [if_neg c30] at H
                                          have c30b0 : (a0 == 134) = false := beq_eq_false_iff_ne.mpr c30
                                          have c30b1 : (a0 != 134) = true := bne_iff_ne.mpr c30
                                          by_cases c31 : a0 = 136
                                          · rw [if_pos c31] at H
                                            have c31b0 : (a0 == 136) = true := beq_iff_eq.mpr c31
                                            have c31b1 : (a0 != 136) = false := bne_eq_false_iff_eq.mpr c31
                                            clear c31
                                            have H' := Aside0.mk H
                                            clear H
                                            go_wp2
                                            go_meet
                                            case rel => exact ⟨_, ((a0 == 136)), (by first | rfl | (simp; done) | (simp [*]; done)), H', ⟨by have := HJ2.out; have := HJ8.out; have := HJ11.out; have := HJ15.out; first | omega | exact Nat.le_refl _⟩, by repeat (first | exact Drawn0.refl _ | apply Drawn0.step)⟩
                                          · rw [if_neg c31] at H
                                            have c31b0 : (a0 == 136) = false := beq_eq_false_iff_ne.mpr c31
                                            have c31b1 : (a0 != 136) = true := bne_iff_ne.mpr c31
                                            have H' := Aside0.mk H
                                            clear H
                                            go_wp2
                                            go_meet
                                            case rel => exact ⟨_, ((a0 == 138)), (by first | rfl | (simp; done) | (simp [*]; done)), H', ⟨by have := HJ2.out; have := HJ8.out; have := HJ11.out; have := HJ15.out; first | omega | exact Nat.le_refl _⟩, by repeat (first | exact Drawn0.refl _ | apply Drawn0.step)⟩
                                  case rest =>
                                    clear HC27
                                    try clear c1
                                    try clear c2
                                    try clear c2b0
                                    try clear c2b1
                                    try clear p2
                                    try clear c3
                                    try clear c4
                                    try clear c4b0
                                    try clear c4b1
                                    try clear c5
                                    try clear c6
                                    try clear c6b0
                                    try clear c6b1
                                    try clear c7
                                    try clear c7b0
                                    try clear c7b1
                                    try clear c8
                                    try clear c8b0
                                    try clear c8b1
                                    try clear c10
                                    try clear c10b0
                                    try clear c10b1
                                    try clear c11
                                    try clear c13
                                    try clear c13b0
                                    try clear c13b1
                                    try clear c14
                                    try clear c14b0
                                    try clear c14b1
                                    try clear c15
                                    try clear c17
                                    try clear c17b0
                                    try clear c17b1
                                    try clear c18
                                    try clear c18b0
                                    try clear c18b1
                                    try clear c19
                                    try clear c19b0
                                    try clear c19b1
                                    try clear c20
                                    try clear c20b0
                                    try clear c20b1
                                    try clear c21
                                    try clear c21b0
                                    try clear c21b1
                                    try clear c22
                                    try clear c22b0
                                    try clear c22b1
                                    try clear c23
                                    try clear c23b0
                                    try clear c23b1
                                    try clear c24
                                    try clear c24b0
                                    try clear c24b1
                                    try clear c25
                                    try clear c25b0
                                    try clear c25b1
                                    try clear c26
                                    try clear c28
                                    try clear c28b0
                                    try clear c28b1
                                    try clear c29
                                    try clear c29b0
                                    try clear c29b1
                                    try clear c30
                                    try clear c30b0
                                    try clear c30b1
                                    try clear c31
                                    try clear c31b0
                                    try clear c31b1
                                    try clear p2
                                    obtain ⟨kq, x33_26, rfl, HA, HJ26, ⟨mc26, rfl⟩⟩ := hcut
                                    cases kq with
                                    | zero => exact absurd HA.out (by simp [towncrierref05_Groups.j4])
                                    | succ kj26 =>
                                      have H := HA.out
                                      clear HA
                                      simp only [towncrierref05_Groups.j4] at H
                                      by_cases c32 : x33_26 = true
                                      · subst c32
                                        have H1 : (some (⟨#[67]⟩ : ByteArray)) = some r := by rw [if_pos rfl] at H; exact H
                                        clear H
                                        have H := H1
                                        clear H1
                                        obtain rfl := Option.some.inj H
                                        go_wp2
                                        go_ret
                                        exact ⟨by first | rfl | (simp; done) | (simp [*]; done), by repeat (first | exact Drawn0.refl _ | apply Drawn0.step)⟩
                                      · replace c32 := Bool.eq_false_iff.mpr c32
                                        subst c32
                                        have H1 : (if a0 = 139 then (towncrierref05_Groups.j5 kj26 a0 (a0 == 139)) else (if a0 = 141 then (towncrierref05_Groups.j5 kj26 a0 (a0 == 141)) else (if a0 = 142 then (towncrierref05_Groups.j5 kj26 a0 (a0 == 142)) else (if a0 = 147 then (towncrierref05_Groups.j5 kj26 a0 (a0 == 147)) else (if a0 = 148 then (towncrierref05_Groups.j5 kj26 a0 (a0 == 148)) else (if a0 = 150 then (towncrierref05_Groups.j5 kj26 a0 (a0 == 150)) else (if a0 = 152 then (towncrierref05_Groups.j5 kj26 a0 (a0 == 152)) else (towncrierref05_Groups.j5 kj26 a0 (a0 == 160))))))))) = some r := by rw [if_neg (show ¬ (false = true) by decide)] at H; exact H
                                        clear H
                                        have H := H1
                                        clear H1
                                        have HC33 := Aside0.mk H
                                        clear H
                                        go_upto_if 39 with (fail)
                                        go_cut [39] (fun v39 wc => ∃ (kq : Nat) (x39_32 : Bool), v39 = .bool x39_32 ∧ Aside0 (towncrierref05_Groups.j5 kq a0 x39_32 = some r) ∧ Aside0 (kq ≤ kj26) ∧ Drawn0 w wc)
                                        case first =>
                                          have H := HC33.out
                                          clear HC33
                                          by_cases c34 : a0 = 139
                                          · rw [if_pos c34] at H
                                            have c34b0 : (a0 == 139) = true := beq_iff_eq.mpr c34
                                            have c34b1 : (a0 != 139) = false := bne_eq_false_iff_eq.mpr c34
                                            clear c34
                                            (first | rw [c34b0] | (simp only [i64_w, i32_w]; rw [c34b0]) | skip)
                                            have H' := Aside0.mk H
                                            clear H
                                            go_wp2
                                            go_meet
                                            case rel => exact ⟨_, ((a0 == 139)), (by first | rfl | (simp; done) | (simp [*]; done)), H', ⟨by have := HJ2.out; have := HJ8.out; have := HJ11.out; have := HJ15.out; have := HJ26.out; first | omega | exact Nat.le_refl _⟩, by repeat (first | exact Drawn0.refl _ | apply Drawn0.step)⟩
                                          · rw [if_neg c34] at H
                                            have c34b0 : (a0 == 139) = false := beq_eq_false_iff_ne.mpr c34
                                            have c34b1 : (a0 != 139) = true := bne_iff_ne.mpr c34
                                            (first | rw [c34b0] | (simp only [i64_w, i32_w]; rw [c34b0]) | skip)
                                            by_cases c35 : a0 = 141
                                            · rw [if_pos c35] at H
                                              have c35b0 : (a0 == 141) = true := beq_iff_eq.mpr c35
                                              have c35b1 : (a0 != 141) = false := bne_eq_false_iff_eq.mpr c35
                                              clear c35
                                              have H' := Aside0.mk H
                                              clear H
                                              go_wp2
                                              go_meet
                                              case rel => exact ⟨_, ((a0 == 141)), (by first | rfl | (simp; done) | (simp [*]; done)), H', ⟨by have := HJ2.out; have := HJ8.out; have := HJ11.out; have := HJ15.out; have := HJ26.out; first | omega | exact Nat.le_refl _⟩, by repeat (first | exact Drawn0.refl _ | apply Drawn0.step)⟩
                                            · rw [if_neg c35] at H
                                              have c35b0 : (a0 == 141) = false := beq_eq_false_iff_ne.mpr c35
                                              have c35b1 : (a0 != 141) = true := bne_iff_ne.mpr c35
                                              by_cases c36 : a0 = 142
                                              · rw [if_pos c36] at H
                                                have c36b0 : (a0 == 142) = true := beq_iff_eq.mpr c36
                                                have c36b1 : (a0 != 142) = false := bne_eq_false_iff_eq.mpr c36
                                                clear c36
                                                have H' := Aside0.mk H
                                                clear H
                                                go_wp2
                                                go_meet
                                                case rel => exact ⟨_, ((a0 == 142)), (by first | rfl | (simp; done) | (simp [*]; done)), H', ⟨by have := HJ2.out; have := HJ8.out; have := HJ11.out; have := HJ15.out; have := HJ26.out; first | omega | exact Nat.le_refl _⟩, by repeat (first | exact Drawn0.refl _ | apply Drawn0.step)⟩
                                              · rw [if_neg c36] at H
                                                have c36b0 : (a0 == 142) = false := beq_eq_false_iff_ne.mpr c36
                                                have c36b1 : (a0 != 142) = true := bne_iff_ne.mpr c36
                                                by_cases c37 : a0 = 147
                                                · rw [if_pos c37] at H
                                                  have c37b0 : (a0 == 147) = true := beq_iff_eq.mpr c37
                                                  have c37b1 : (a0 != 147) = false := bne_eq_false_iff_eq.mpr c37
                                                  clear c37
                                                  have H' := Aside0.mk H
                                                  clear H
                                                  go_wp2
                                                  go_meet
                                                  case rel => exact ⟨_, ((a0 == 147)), (by first | rfl | (simp; done) | (simp [*]; done)), H', ⟨by have := HJ2.out; have := HJ8.out; have := HJ11.out; have := HJ15.out; have := HJ26.out; first | omega | exact Nat.le_refl _⟩, by repeat (first | exact Drawn0.refl _ | apply Drawn0.step)⟩
                                                · rw [if_neg c37] at H
                                                  have c37b0 : (a0 == 147) = false := beq_eq_false_iff_ne.mpr c37
                                                  have c37b1 : (a0 != 147) = true := bne_iff_ne.mpr c37
                                                  by_cases c38 : a0 = 148
                                                  · rw [if_pos c38] at H
                                                    have c38b0 : (a0 == 148) = true := beq_iff_eq.mpr c38
                                                    have c38b1 : (a0 != 148) = false := bne_eq_false_iff_eq.mpr c38
                                                    clear c38
                                                    have H' := Aside0.mk H
                                                    clear H
                                                    go_wp2
                                                    go_meet
                                                    case rel => exact ⟨_, ((a0 == 148)), (by first | rfl | (simp; done) | (simp [*]; done)), H', ⟨by have := HJ2.out; have := HJ8.out; have := HJ11.out; have := HJ15.out; have := HJ26.out; first | omega | exact Nat.le_refl _⟩, by repeat (first | exact Drawn0.refl _ | apply Drawn0.step)⟩
                                                  · rw [if_neg c38] at H
                                                    have c38b0 : (a0 == 148) = false := beq_eq_false_iff_ne.mpr c38
                                                    have c38b1 : (a0 != 148) = true := bne_iff_ne.mpr c38
                                                    by_cases c39 : a0 = 150
                                                    · rw [if_pos c39] at H
                                                      have c39b0 : (a0 == 150) = true := beq_iff_eq.mpr c39
                                                      have c39b1 : (a0 != 150) = false := bne_eq_false_iff_eq.mpr c39
                                                      clear c39
                                                      have H' := Aside0.mk H
                                                      clear H
                                                      go_wp2
                                                      go_meet
                                                      case rel => exact ⟨_, ((a0 == 150)), (by first | rfl | (simp; done) | (simp [*]; done)), H', ⟨by have := HJ2.out; have := HJ8.out; have := HJ11.out; have := HJ15.out; have := HJ26.out; first | omega | exact Nat.le_refl _⟩, by repeat (first | exact Drawn0.refl _ | apply Drawn0.step)⟩
                                                    · rw [if_neg c39] at H
                                                      have c39b0 : (a0 == 150) = false := beq_eq_false_iff_ne.mpr c39
                                                      have c39b1 : (a0 != 150) = true := bne_iff_ne.mpr c39
                                                      by_cases c40 : a0 = 152
                                                      · rw [if_pos c40] at H
                                                        have c40b0 : (a0 == 152) = true := beq_iff_eq.mpr c40
                                                        have c40b1 : (a0 != 152) = false := bne_eq_false_iff_eq.mpr c40
                                                        clear c40
                                                        have H' := Aside0.mk H
                                                        clear H
                                                        go_wp2
                                                        go_meet
                                                        case rel => exact ⟨_, ((a0 == 152)), (by first | rfl | (simp; done) | (simp [*]; done)), H', ⟨by have := HJ2.out; have := HJ8.out; have := HJ11.out; have := HJ15.out; have := HJ26.out; first | omega | exact Nat.le_refl _⟩, by repeat (first | exact Drawn0.refl _ | apply Drawn0.step)⟩
                                                      · rw [if_neg c40] at H
                                                        have c40b0 : (a0 == 152) = false := beq_eq_false_iff_ne.mpr c40
                                                        have c40b1 : (a0 != 152) = true := bne_iff_ne.mpr c40
                                                        have H' := Aside0.mk H
                                                        clear H
                                                        go_wp2
                                                        go_meet
                                                        case rel => exact ⟨_, ((a0 == 160)), (by first | rfl | (simp; done) | (simp [*]; done)), H', ⟨by have := HJ2.out; have := HJ8.out; have := HJ11.out; have := HJ15.out; have := HJ26.out; first | omega | exact Nat.le_refl _⟩, by repeat (first | exact Drawn0.refl _ | apply Drawn0.step)⟩
                                        case rest =>
                                          clear HC33
                                          try clear c1
                                          try clear c2
                                          try clear c2b0
                                          try clear c2b1
                                          try clear p2
                                          try clear c3
                                          try clear c4
                                          try clear c4b0
                                          try clear c4b1
                                          try clear c5
                                          try clear c6
                                          try clear c6b0
                                          try clear c6b1
                                          try clear c7
                                          try clear c7b0
                                          try clear c7b1
                                          try clear c8
                                          try clear c8b0
                                          try clear c8b1
                                          try clear c10
                                          try clear c10b0
                                          try clear c10b1
                                          try clear c11
                                          try clear c13
                                          try clear c13b0
                                          try clear c13b1
                                          try clear c14
                                          try clear c14b0
                                          try clear c14b1
                                          try clear c15
                                          try clear c17
                                          try clear c17b0
                                          try clear c17b1
                                          try clear c18
                                          try clear c18b0
                                          try clear c18b1
                                          try clear c19
                                          try clear c19b0
                                          try clear c19b1
                                          try clear c20
                                          try clear c20b0
                                          try clear c20b1
                                          try clear c21
                                          try clear c21b0
                                          try clear c21b1
                                          try clear c22
                                          try clear c22b0
                                          try clear c22b1
                                          try clear c23
                                          try clear c23b0
                                          try clear c23b1
                                          try clear c24
                                          try clear c24b0
                                          try clear c24b1
                                          try clear c25
                                          try clear c25b0
                                          try clear c25b1
                                          try clear c26
                                          try clear c28
                                          try clear c28b0
                                          try clear c28b1
                                          try clear c29
                                          try clear c29b0
                                          try clear c29b1
                                          try clear c30
                                          try clear c30b0
                                          try clear c30b1
                                          try clear c31
                                          try clear c31b0
                                          try clear c31b1
                                          try clear c32
                                          try clear c34
                                          try clear c34b0
                                          try clear c34b1
                                          try clear c35
                                          try clear c35b0
                                          try clear c35b1
                                          try clear c36
                                          try clear c36b0
                                          try clear c36b1
                                          try clear c37
                                          try clear c37b0
                                          try clear c37b1
                                          try clear c38
                                          try clear c38b0
                                          try clear c38b1
                                          try clear c39
                                          try clear c39b0
                                          try clear c39b1
                                          try clear c40
                                          try clear c40b0
                                          try clear c40b1
                                          try clear p2
                                          obtain ⟨kq, x39_32, rfl, HA, HJ32, ⟨mc32, rfl⟩⟩ := hcut
                                          cases kq with
                                          | zero => exact absurd HA.out (by simp [towncrierref05_Groups.j5])
                                          | succ kj32 =>
                                            have H := HA.out
                                            clear HA
                                            simp only [towncrierref05_Groups.j5] at H
                                            by_cases c41 : x39_32 = true
                                            · subst c41
                                              have H1 : (some (⟨#[68]⟩ : ByteArray)) = some r := by rw [if_pos rfl] at H; exact H
                                              clear H
                                              have H := H1
                                              clear H1
                                              obtain rfl := Option.some.inj H
                                              go_wp2
                                              go_ret
                                              exact ⟨by first | rfl | (simp; done) | (simp [*]; done), by repeat (first | exact Drawn0.refl _ | apply Drawn0.step)⟩
                                            · replace c41 := Bool.eq_false_iff.mpr c41
                                              subst c41
                                              have H1 : (if a0 = 143 then (some (⟨#[83, 85, 68]⟩ : ByteArray)) else (if a0 = 144 then (towncrierref05_Groups.j6 kj32 a0 (a0 == 144)) else (towncrierref05_Groups.j6 kj32 a0 (a0 == 153)))) = some r := by rw [if_neg (show ¬ (false = true) by decide)] at H; exact H
                                              clear H
                                              have H := H1
                                              clear H1
                                              by_cases c42 : a0 = 143
                                              · rw [if_pos c42] at H
                                                have c42b0 : (a0 == 143) = true := beq_iff_eq.mpr c42
                                                have c42b1 : (a0 != 143) = false := bne_eq_false_iff_eq.mpr c42
                                                clear c42
                                                obtain rfl := Option.some.inj H
                                                go_wp2
                                                go_ret
                                                exact ⟨by first | rfl | (simp; done) | (simp [*]; done), by repeat (first | exact Drawn0.refl _ | apply Drawn0.step)⟩
                                              · rw [if_neg c42] at H
                                                have c42b0 : (a0 == 143) = false := beq_eq_false_iff_ne.mpr c42
                                                have c42b1 : (a0 != 143) = true := bne_iff_ne.mpr c42
                                                have HC43 := Aside0.mk H
                                                clear H
                                                go_upto_if 50 with (fail)
                                                go_cut [50] (fun v50 wc => ∃ (kq : Nat) (x50_42 : Bool), v50 = .bool x50_42 ∧ Aside0 (towncrierref05_Groups.j6 kq a0 x50_42 = some r) ∧ Aside0 (kq ≤ kj32) ∧ Drawn0 w wc)
                                                case first =>
                                                  have H := HC43.out
                                                  clear HC43
                                                  by_cases c44 : a0 = 144
                                                  · rw [if_pos c44] at H
                                                    have c44b0 : (a0 == 144) = true := beq_iff_eq.mpr c44
                                                    have c44b1 : (a0 != 144) = false := bne_eq_false_iff_eq.mpr c44
                                                    clear c44
                                                    (first | rw [c44b0] | (simp only [i64_w, i32_w]; rw [c44b0]) | skip)
                                                    have H' := Aside0.mk H
                                                    clear H
                                                    go_wp2
                                                    go_meet
                                                    case rel => exact ⟨_, ((a0 == 144)), (by first | rfl | (simp; done) | (simp [*]; done)), H', ⟨by have := HJ2.out; have := HJ8.out; have := HJ11.out; have := HJ15.out; have := HJ26.out; have := HJ32.out; first | omega | exact Nat.le_refl _⟩, by repeat (first | exact Drawn0.refl _ | apply Drawn0.step)⟩
                                                  · rw [if_neg c44] at H
                                                    have c44b0 : (a0 == 144) = false := beq_eq_false_iff_ne.mpr c44
                                                    have c44b1 : (a0 != 144) = true := bne_iff_ne.mpr c44
                                                    (first | rw [c44b0] | (simp only [i64_w, i32_w]; rw [c44b0]) | skip)
                                                    have H' := Aside0.mk H
                                                    clear H
                                                    go_wp2
                                                    go_meet
                                                    case rel => exact ⟨_, ((a0 == 153)), (by first | rfl | (simp; done) | (simp [*]; done)), H', ⟨by have := HJ2.out; have := HJ8.out; have := HJ11.out; have := HJ15.out; have := HJ26.out; have := HJ32.out; first | omega | exact Nat.le_refl _⟩, by repeat (first | exact Drawn0.refl _ | apply Drawn0.step)⟩
                                                case rest =>
                                                  clear HC43
                                                  try clear c1
                                                  try clear c2
                                                  try clear c2b0
                                                  try clear c2b1
                                                  try clear p2
                                                  try clear c3
                                                  try clear c4
                                                  try clear c4b0
                                                  try clear c4b1
                                                  try clear c5
                                                  try clear c6
                                                  try clear c6b0
                                                  try clear c6b1
                                                  try clear c7
                                                  try clear c7b0
                                                  try clear c7b1
                                                  try clear c8
                                                  try clear c8b0
                                                  try clear c8b1
                                                  try clear c10
                                                  try clear c10b0
                                                  try clear c10b1
                                                  try clear c11
                                                  try clear c13
                                                  try clear c13b0
                                                  try clear c13b1
                                                  try clear c14
                                                  try clear c14b0
                                                  try clear c14b1
                                                  try clear c15
                                                  try clear c17
                                                  try clear c17b0
                                                  try clear c17b1
                                                  try clear c18
                                                  try clear c18b0
                                                  try clear c18b1
                                                  try clear c19
                                                  try clear c19b0
                                                  try clear c19b1
                                                  try clear c20
                                                  try clear c20b0
                                                  try clear c20b1
                                                  try clear c21
                                                  try clear c21b0
                                                  try clear c21b1
                                                  try clear c22
                                                  try clear c22b0
                                                  try clear c22b1
                                                  try clear c23
                                                  try clear c23b0
                                                  try clear c23b1
                                                  try clear c24
                                                  try clear c24b0
                                                  try clear c24b1
                                                  try clear c25
                                                  try clear c25b0
                                                  try clear c25b1
                                                  try clear c26
                                                  try clear c28
                                                  try clear c28b0
                                                  try clear c28b1
                                                  try clear c29
                                                  try clear c29b0
                                                  try clear c29b1
                                                  try clear c30
                                                  try clear c30b0
                                                  try clear c30b1
                                                  try clear c31
                                                  try clear c31b0
                                                  try clear c31b1
                                                  try clear c32
                                                  try clear c34
                                                  try clear c34b0
                                                  try clear c34b1
                                                  try clear c35
                                                  try clear c35b0
                                                  try clear c35b1
                                                  try clear c36
                                                  try clear c36b0
                                                  try clear c36b1
                                                  try clear c37
                                                  try clear c37b0
                                                  try clear c37b1
                                                  try clear c38
                                                  try clear c38b0
                                                  try clear c38b1
                                                  try clear c39
                                                  try clear c39b0
                                                  try clear c39b1
                                                  try clear c40
                                                  try clear c40b0
                                                  try clear c40b1
                                                  try clear c41
                                                  try clear c42
                                                  try clear c42b0
                                                  try clear c42b1
                                                  try clear c44
                                                  try clear c44b0
                                                  try clear c44b1
                                                  try clear p2
                                                  obtain ⟨kq, x50_42, rfl, HA, HJ42, ⟨mc42, rfl⟩⟩ := hcut
                                                  cases kq with
                                                  | zero => exact absurd HA.out (by simp [towncrierref05_Groups.j6])
                                                  | succ kj42 =>
                                                    have H := HA.out
                                                    clear HA
                                                    simp only [towncrierref05_Groups.j6] at H
                                                    by_cases c45 : x50_42 = true
                                                    · subst c45
                                                      have H1 : (some (⟨#[67, 65, 68]⟩ : ByteArray)) = some r := by rw [if_pos rfl] at H; exact H
                                                      clear H
                                                      have H := H1
                                                      clear H1
                                                      obtain rfl := Option.some.inj H
                                                      go_wp2
                                                      go_ret
                                                      exact ⟨by first | rfl | (simp; done) | (simp [*]; done), by repeat (first | exact Drawn0.refl _ | apply Drawn0.step)⟩
                                                    · replace c45 := Bool.eq_false_iff.mpr c45
                                                      subst c45
                                                      have H1 : (if a0 = 145 then (some (⟨#[65, 83, 85]⟩ : ByteArray)) else (if a0 = 146 then (some (⟨#[82]⟩ : ByteArray)) else (if a0 = 151 then (some (⟨#[67, 65, 83, 68]⟩ : ByteArray)) else (if a0 = 158 then (some (⟨#[83, 68]⟩ : ByteArray)) else (if a0 = 161 then (some (⟨#[83, 68]⟩ : ByteArray)) else (if a0 = 162 then (some (⟨#[83, 68]⟩ : ByteArray)) else (some (⟨#[]⟩ : ByteArray)))))))) = some r := by rw [if_neg (show ¬ (false = true) by decide)] at H; exact H
                                                      clear H
                                                      have H := H1
                                                      clear H1
                                                      by_cases c46 : a0 = 145
                                                      · rw [if_pos c46] at H
                                                        have c46b0 : (a0 == 145) = true := beq_iff_eq.mpr c46
                                                        have c46b1 : (a0 != 145) = false := bne_eq_false_iff_eq.mpr c46
                                                        clear c46
                                                        obtain rfl := Option.some.inj H
                                                        go_wp2
                                                        go_ret
                                                        exact ⟨by first | rfl | (simp; done) | (simp [*]; done), by repeat (first | exact Drawn0.refl _ | apply Drawn0.step)⟩
                                                      · rw [if_neg c46] at H
                                                        have c46b0 : (a0 == 145) = false := beq_eq_false_iff_ne.mpr c46
                                                        have c46b1 : (a0 != 145) = true := bne_iff_ne.mpr c46
                                                        by_cases c47 : a0 = 146
                                                        · rw [if_pos c47] at H
                                                          have c47b0 : (a0 == 146) = true := beq_iff_eq.mpr c47
                                                          have c47b1 : (a0 != 146) = false := bne_eq_false_iff_eq.mpr c47
                                                          clear c47
                                                          obtain rfl := Option.some.inj H
                                                          go_wp2
                                                          go_ret
                                                          exact ⟨by first | rfl | (simp; done) | (simp [*]; done), by repeat (first | exact Drawn0.refl _ | apply Drawn0.step)⟩
                                                        · rw [if_neg c47] at H
                                                          have c47b0 : (a0 == 146) = false := beq_eq_false_iff_ne.mpr c47
                                                          have c47b1 : (a0 != 146) = true := bne_iff_ne.mpr c47
                                                          by_cases c48 : a0 = 151
                                                          · rw [if_pos c48] at H
                                                            have c48b0 : (a0 == 151) = true := beq_iff_eq.mpr c48
                                                            have c48b1 : (a0 != 151) = false := bne_eq_false_iff_eq.mpr c48
                                                            clear c48
                                                            obtain rfl := Option.some.inj H
                                                            go_wp2
                                                            go_ret
                                                            exact ⟨by first | rfl | (simp; done) | (simp [*]; done), by repeat (first | exact Drawn0.refl _ | apply Drawn0.step)⟩
                                                          · rw [if_neg c48] at H
                                                            have c48b0 : (a0 == 151) = false := beq_eq_false_iff_ne.mpr c48
                                                            have c48b1 : (a0 != 151) = true := bne_iff_ne.mpr c48
                                                            by_cases c49 : a0 = 158
                                                            · rw [if_pos c49] at H
                                                              have c49b0 : (a0 == 158) = true := beq_iff_eq.mpr c49
                                                              have c49b1 : (a0 != 158) = false := bne_eq_false_iff_eq.mpr c49
                                                              clear c49
                                                              obtain rfl := Option.some.inj H
                                                              go_wp2
                                                              go_ret
                                                              exact ⟨by first | rfl | (simp; done) | (simp [*]; done), by repeat (first | exact Drawn0.refl _ | apply Drawn0.step)⟩
                                                            · rw [if_neg c49] at H
                                                              have c49b0 : (a0 == 158) = false := beq_eq_false_iff_ne.mpr c49
                                                              have c49b1 : (a0 != 158) = true := bne_iff_ne.mpr c49
                                                              by_cases c50 : a0 = 161
                                                              · rw [if_pos c50] at H
                                                                have c50b0 : (a0 == 161) = true := beq_iff_eq.mpr c50
                                                                have c50b1 : (a0 != 161) = false := bne_eq_false_iff_eq.mpr c50
                                                                clear c50
                                                                obtain rfl := Option.some.inj H
                                                                go_wp2
                                                                go_ret
                                                                exact ⟨by first | rfl | (simp; done) | (simp [*]; done), by repeat (first | exact Drawn0.refl _ | apply Drawn0.step)⟩
                                                              · rw [if_neg c50] at H
                                                                have c50b0 : (a0 == 161) = false := beq_eq_false_iff_ne.mpr c50
                                                                have c50b1 : (a0 != 161) = true := bne_iff_ne.mpr c50
                                                                by_cases c51 : a0 = 162
                                                                · rw [if_pos c51] at H
                                                                  have c51b0 : (a0 == 162) = true := beq_iff_eq.mpr c51
                                                                  have c51b1 : (a0 != 162) = false := bne_eq_false_iff_eq.mpr c51
                                                                  clear c51
                                                                  obtain rfl := Option.some.inj H
                                                                  go_wp2
                                                                  go_ret
                                                                  exact ⟨by first | rfl | (simp; done) | (simp [*]; done), by repeat (first | exact Drawn0.refl _ | apply Drawn0.step)⟩
                                                                · rw [if_neg c51] at H
                                                                  have c51b0 : (a0 == 162) = false := beq_eq_false_iff_ne.mpr c51
                                                                  have c51b1 : (a0 != 162) = true := bne_iff_ne.mpr c51
                                                                  obtain rfl := Option.some.inj H
                                                                  go_wp2
                                                                  go_ret
                                                                  exact ⟨by first | rfl | (simp; done) | (simp [*]; done), by repeat (first | exact Drawn0.refl _ | apply Drawn0.step)⟩

end Go.Proofs.Ytlmcjfnignbdoaa.PReasonAll
