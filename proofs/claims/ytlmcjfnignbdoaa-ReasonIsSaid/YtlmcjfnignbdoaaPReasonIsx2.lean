-- PRINTED BY print.sh 35421559b90ae4d0a3588c463048766b98c2df88dd9212a6774a882060cdf62d: not written by this session
import Derived.Test.YtlmcjfnignbdoaaPReasonIsx0
import Derived.Test.YtlmcjfnignbdoaaPReasonIsx1
namespace Go.Proofs.Ytlmcjfnignbdoaa.PReasonIs
open Go.RowKit Go.Proofs.YtlmcjfnignbdoaaW.PrintWords Go.Proofs.YtlmcjfnignbdoaaW.PrintLast Go.Proofs.YtlmcjfnignbdoaaW.PrintMore
attribute [local go_sem] max2_int min2_int max_two min_two max_three min_three max_four min_four   -- for this text's walks alone
set_option linter.unusedVariables false
set_option linter.unusedSimpArgs false

/-! ### reason_groups: function 43 -/
mutual
def reason_groups.j0 : Nat → Int → Int → Int → Bool → Option (Int)
  | 0, _, _, _, _ => none
  | k + 1, x0, x3, x4, x5 => if x5 = true then (some (Go.bits .or .i64 (Go.bits .or .i64 (Go.bits .or .i64 (Go.bits .or .i64 x3 24) 2) 1) 32)) else (if x4 = 144 then (reason_groups.j1 k x0 x3 x4 (x4 == 144)) else (reason_groups.j1 k x0 x3 x4 (x4 == 153)))
def reason_groups.j1 : Nat → Int → Int → Int → Bool → Option (Int)
  | 0, _, _, _, _ => none
  | k + 1, x0, x3, x4, x9 => if x9 = true then (some (Go.bits .or .i64 (Go.bits .or .i64 (Go.bits .or .i64 x3 2) 1) 32)) else (if x4 = 129 then (reason_groups.j2 k x0 x3 x4 (x4 == 129)) else (if x4 = 130 then (reason_groups.j2 k x0 x3 x4 (x4 == 130)) else (if x4 = 137 then (reason_groups.j2 k x0 x3 x4 (x4 == 137)) else (if x4 = 140 then (reason_groups.j2 k x0 x3 x4 (x4 == 140)) else (if x4 = 149 then (reason_groups.j2 k x0 x3 x4 (x4 == 149)) else (if x4 = 154 then (reason_groups.j2 k x0 x3 x4 (x4 == 154)) else (if x4 = 155 then (reason_groups.j2 k x0 x3 x4 (x4 == 155)) else (if x4 = 156 then (reason_groups.j2 k x0 x3 x4 (x4 == 156)) else (if x4 = 157 then (reason_groups.j2 k x0 x3 x4 (x4 == 157)) else (reason_groups.j2 k x0 x3 x4 (x4 == 159)))))))))))
def reason_groups.j2 : Nat → Int → Int → Int → Bool → Option (Int)
  | 0, _, _, _, _ => none
  | k + 1, x0, x3, x4, x12 => if x12 = true then (some (Go.bits .or .i64 (Go.bits .or .i64 x3 1) 32)) else (if x4 = 139 then (reason_groups.j3 k x0 x3 x4 (x4 == 139)) else (if x4 = 141 then (reason_groups.j3 k x0 x3 x4 (x4 == 141)) else (if x4 = 142 then (reason_groups.j3 k x0 x3 x4 (x4 == 142)) else (if x4 = 147 then (reason_groups.j3 k x0 x3 x4 (x4 == 147)) else (if x4 = 148 then (reason_groups.j3 k x0 x3 x4 (x4 == 148)) else (if x4 = 150 then (reason_groups.j3 k x0 x3 x4 (x4 == 150)) else (if x4 = 152 then (reason_groups.j3 k x0 x3 x4 (x4 == 152)) else (reason_groups.j3 k x0 x3 x4 (x4 == 160)))))))))
def reason_groups.j3 : Nat → Int → Int → Int → Bool → Option (Int)
  | 0, _, _, _, _ => none
  | k + 1, x0, x3, x4, x23 => if x23 = true then (some (Go.bits .or .i64 x3 32)) else (if x4 = 151 then (some (Go.bits .or .i64 (Go.bits .or .i64 (Go.bits .or .i64 x3 3) 8) 32)) else (if x4 = 158 then (reason_groups.j4 k x0 x3 x4 (x4 == 158)) else (if x4 = 161 then (reason_groups.j4 k x0 x3 x4 (x4 == 161)) else (reason_groups.j4 k x0 x3 x4 (x4 == 162)))))
def reason_groups.j4 : Nat → Int → Int → Int → Bool → Option (Int)
  | 0, _, _, _, _ => none
  | k + 1, x0, x3, x4, x34 => if x34 = true then (some (Go.bits .or .i64 (Go.bits .or .i64 x3 8) 32)) else (if x4 = 143 then (some 56) else (if x4 = 145 then (some 26) else (if x4 = 132 then (reason_groups.j5 k x0 x4 (x4 == 132)) else (if x4 = 133 then (reason_groups.j5 k x0 x4 (x4 == 133)) else (if x4 = 134 then (reason_groups.j5 k x0 x4 (x4 == 134)) else (if x4 = 136 then (reason_groups.j5 k x0 x4 (x4 == 136)) else (reason_groups.j5 k x0 x4 (x4 == 138))))))))
def reason_groups.j5 : Nat → Int → Int → Bool → Option (Int)
  | 0, _, _, _ => none
  | k + 1, x0, x4, x42 => if x42 = true then (some 1) else (if x4 = 146 then (some 4) else ((reason_good.f k x0).bind fun t101 => (some t101)))
end
def reason_groups.f (k : Nat) (a0 : Int) : Option (Int) := if a0 = 128 then (reason_groups.j0 k a0 0 a0 (a0 == 128)) else (if a0 = 131 then (reason_groups.j0 k a0 0 a0 (a0 == 131)) else (reason_groups.j0 k a0 0 a0 (a0 == 135)))
theorem reason_groups.mono_l : ∀ k, (∀ y0 y1 y2 y3, LeO (reason_groups.j0 k y0 y1 y2 y3) (reason_groups.j0 (k + 1) y0 y1 y2 y3)) ∧ (∀ y0 y1 y2 y3, LeO (reason_groups.j1 k y0 y1 y2 y3) (reason_groups.j1 (k + 1) y0 y1 y2 y3)) ∧ (∀ y0 y1 y2 y3, LeO (reason_groups.j2 k y0 y1 y2 y3) (reason_groups.j2 (k + 1) y0 y1 y2 y3)) ∧ (∀ y0 y1 y2 y3, LeO (reason_groups.j3 k y0 y1 y2 y3) (reason_groups.j3 (k + 1) y0 y1 y2 y3)) ∧ (∀ y0 y1 y2 y3, LeO (reason_groups.j4 k y0 y1 y2 y3) (reason_groups.j4 (k + 1) y0 y1 y2 y3)) ∧ (∀ y0 y1 y2, LeO (reason_groups.j5 k y0 y1 y2) (reason_groups.j5 (k + 1) y0 y1 y2))
  | 0 => ⟨fun _ _ _ _ r h => by simp [reason_groups.j0] at h, fun _ _ _ _ r h => by simp [reason_groups.j1] at h, fun _ _ _ _ r h => by simp [reason_groups.j2] at h, fun _ _ _ _ r h => by simp [reason_groups.j3] at h, fun _ _ _ _ r h => by simp [reason_groups.j4] at h, fun _ _ _ r h => by simp [reason_groups.j5] at h⟩
  | k + 1 => by
    obtain ⟨ih0, ih1, ih2, ih3, ih4, ih5⟩ := reason_groups.mono_l k
    refine ⟨?_, ?_, ?_, ?_, ?_, ?_⟩
    · intro y0 y1 y2 y3
      unfold reason_groups.j0
      repeat' first
      | (with_reducible exact ih0 _ _ _ _)
      | (with_reducible exact ih1 _ _ _ _)
      | (with_reducible exact ih2 _ _ _ _)
      | (with_reducible exact ih3 _ _ _ _)
      | (with_reducible exact ih4 _ _ _ _)
      | (with_reducible exact ih5 _ _ _)
      | (with_reducible exact reason_good.mono _ _)
      | (with_reducible exact LeO.refl _)
      | (with_reducible exact LeO.none _)
      | (with_reducible refine LeO.ite ?_ ?_)
      | (with_reducible refine LeO.bind ?_ (fun _ => ?_))
      | exact ih0 _ _ _ _
      | exact ih1 _ _ _ _
      | exact ih2 _ _ _ _
      | exact ih3 _ _ _ _
      | exact ih4 _ _ _ _
      | exact ih5 _ _ _
      | exact reason_good.mono _ _
      | exact LeO.none _
      | refine LeO.ite ?_ ?_
      | refine LeO.bind ?_ (fun _ => ?_)
    · intro y0 y1 y2 y3
      unfold reason_groups.j1
      repeat' first
      | (with_reducible exact ih0 _ _ _ _)
      | (with_reducible exact ih1 _ _ _ _)
      | (with_reducible exact ih2 _ _ _ _)
      | (with_reducible exact ih3 _ _ _ _)
      | (with_reducible exact ih4 _ _ _ _)
      | (with_reducible exact ih5 _ _ _)
      | (with_reducible exact reason_good.mono _ _)
      | (with_reducible exact LeO.refl _)
      | (with_reducible exact LeO.none _)
      | (with_reducible refine LeO.ite ?_ ?_)
      | (with_reducible refine LeO.bind ?_ (fun _ => ?_))
      | exact ih0 _ _ _ _
      | exact ih1 _ _ _ _
      | exact ih2 _ _ _ _
      | exact ih3 _ _ _ _
      | exact ih4 _ _ _ _
      | exact ih5 _ _ _
      | exact reason_good.mono _ _
      | exact LeO.none _
      | refine LeO.ite ?_ ?_
      | refine LeO.bind ?_ (fun _ => ?_)
    · intro y0 y1 y2 y3
      unfold reason_groups.j2
      repeat' first
      | (with_reducible exact ih0 _ _ _ _)
      | (with_reducible exact ih1 _ _ _ _)
      | (with_reducible exact ih2 _ _ _ _)
      | (with_reducible exact ih3 _ _ _ _)
      | (with_reducible exact ih4 _ _ _ _)
      | (with_reducible exact ih5 _ _ _)
      | (with_reducible exact reason_good.mono _ _)
      | (with_reducible exact LeO.refl _)
      | (with_reducible exact LeO.none _)
      | (with_reducible refine LeO.ite ?_ ?_)
      | (with_reducible refine LeO.bind ?_ (fun _ => ?_))
      | exact ih0 _ _ _ _
      | exact ih1 _ _ _ _
      | exact ih2 _ _ _ _
      | exact ih3 _ _ _ _
      | exact ih4 _ _ _ _
      | exact ih5 _ _ _
      | exact reason_good.mono _ _
      | exact LeO.none _
      | refine LeO.ite ?_ ?_
      | refine LeO.bind ?_ (fun _ => ?_)
    · intro y0 y1 y2 y3
      unfold reason_groups.j3
      repeat' first
      | (with_reducible exact ih0 _ _ _ _)
      | (with_reducible exact ih1 _ _ _ _)
      | (with_reducible exact ih2 _ _ _ _)
      | (with_reducible exact ih3 _ _ _ _)
      | (with_reducible exact ih4 _ _ _ _)
      | (with_reducible exact ih5 _ _ _)
      | (with_reducible exact reason_good.mono _ _)
      | (with_reducible exact LeO.refl _)
      | (with_reducible exact LeO.none _)
      | (with_reducible refine LeO.ite ?_ ?_)
      | (with_reducible refine LeO.bind ?_ (fun _ => ?_))
      | exact ih0 _ _ _ _
      | exact ih1 _ _ _ _
      | exact ih2 _ _ _ _
      | exact ih3 _ _ _ _
      | exact ih4 _ _ _ _
      | exact ih5 _ _ _
      | exact reason_good.mono _ _
      | exact LeO.none _
      | refine LeO.ite ?_ ?_
      | refine LeO.bind ?_ (fun _ => ?_)
    · intro y0 y1 y2 y3
      unfold reason_groups.j4
      repeat' first
      | (with_reducible exact ih0 _ _ _ _)
      | (with_reducible exact ih1 _ _ _ _)
      | (with_reducible exact ih2 _ _ _ _)
      | (with_reducible exact ih3 _ _ _ _)
      | (with_reducible exact ih4 _ _ _ _)
      | (with_reducible exact ih5 _ _ _)
      | (with_reducible exact reason_good.mono _ _)
      | (with_reducible exact LeO.refl _)
      | (with_reducible exact LeO.none _)
      | (with_reducible refine LeO.ite ?_ ?_)
      | (with_reducible refine LeO.bind ?_ (fun _ => ?_))
      | exact ih0 _ _ _ _
      | exact ih1 _ _ _ _
      | exact ih2 _ _ _ _
      | exact ih3 _ _ _ _
      | exact ih4 _ _ _ _
      | exact ih5 _ _ _
      | exact reason_good.mono _ _
      | exact LeO.none _
      | refine LeO.ite ?_ ?_
      | refine LeO.bind ?_ (fun _ => ?_)
    · intro y0 y1 y2
      unfold reason_groups.j5
      repeat' first
      | (with_reducible exact ih0 _ _ _ _)
      | (with_reducible exact ih1 _ _ _ _)
      | (with_reducible exact ih2 _ _ _ _)
      | (with_reducible exact ih3 _ _ _ _)
      | (with_reducible exact ih4 _ _ _ _)
      | (with_reducible exact ih5 _ _ _)
      | (with_reducible exact reason_good.mono _ _)
      | (with_reducible exact LeO.refl _)
      | (with_reducible exact LeO.none _)
      | (with_reducible refine LeO.ite ?_ ?_)
      | (with_reducible refine LeO.bind ?_ (fun _ => ?_))
      | exact ih0 _ _ _ _
      | exact ih1 _ _ _ _
      | exact ih2 _ _ _ _
      | exact ih3 _ _ _ _
      | exact ih4 _ _ _ _
      | exact ih5 _ _ _
      | exact reason_good.mono _ _
      | exact LeO.none _
      | refine LeO.ite ?_ ?_
      | refine LeO.bind ?_ (fun _ => ?_)
theorem reason_groups.mono : ∀ a0 k, LeO (reason_groups.f k a0) (reason_groups.f (k + 1) a0) := by
  intro a0 k
  obtain ⟨ih0, ih1, ih2, ih3, ih4, ih5⟩ := reason_groups.mono_l k
  unfold reason_groups.f
  repeat' first
      | (with_reducible exact ih0 _ _ _ _)
      | (with_reducible exact ih1 _ _ _ _)
      | (with_reducible exact ih2 _ _ _ _)
      | (with_reducible exact ih3 _ _ _ _)
      | (with_reducible exact ih4 _ _ _ _)
      | (with_reducible exact ih5 _ _ _)
      | (with_reducible exact reason_good.mono _ _)
      | (with_reducible exact LeO.refl _)
      | (with_reducible exact LeO.none _)
      | (with_reducible refine LeO.ite ?_ ?_)
      | (with_reducible refine LeO.bind ?_ (fun _ => ?_))
      | exact ih0 _ _ _ _
      | exact ih1 _ _ _ _
      | exact ih2 _ _ _ _
      | exact ih3 _ _ _ _
      | exact ih4 _ _ _ _
      | exact ih5 _ _ _
      | exact reason_good.mono _ _
      | exact LeO.none _
      | refine LeO.ite ?_ ?_
      | refine LeO.bind ?_ (fun _ => ?_)
set_option maxHeartbeats 8000000 in
set_option maxRecDepth 100000 in
theorem reason_groups.calls (k : Nat) (a0 : Int) (r : Int) (w : World) (h : reason_groups.f k a0 = some r) :
    Calls Try.prog 43 #[.int .i64 a0] w fun e w' => e = .returned (.int .i64 r) ∧ Drawn0 w w' := by
  have H : (if a0 = 128 then (reason_groups.j0 k a0 0 a0 (a0 == 128)) else (if a0 = 131 then (reason_groups.j0 k a0 0 a0 (a0 == 131)) else (reason_groups.j0 k a0 0 a0 (a0 == 135)))) = some r := h
  clear h
  have HC2 := Aside0.mk H
  clear H
  go_enter Try.func43, Try.ntmps43
  go_upto_if 5 with (fail)
  go_cut [5] (fun v5 wc => ∃ (kq : Nat) (x5_1 : Bool), v5 = .bool x5_1 ∧ Aside0 (reason_groups.j0 kq a0 0 a0 x5_1 = some r) ∧ Aside0 (kq ≤ k) ∧ Drawn0 w wc)
  case first =>
    have H := HC2.out
    clear HC2
    by_cases c3 : a0 = 128
    · rw [if_pos c3] at H
      have c3b0 : (a0 == 128) = true := beq_iff_eq.mpr c3
      have c3b1 : (a0 != 128) = false := bne_eq_false_iff_eq.mpr c3
      clear c3
      (first | rw [c3b0] | (simp only [i64_w, i32_w]; rw [c3b0]) | skip)
      have H' := Aside0.mk H
      clear H
      go_wp2
      go_meet
      case rel => exact ⟨_, ((a0 == 128)), (by first | rfl | (simp; done) | (simp [*]; done)), H', ⟨by first | omega | exact Nat.le_refl _⟩, by repeat (first | exact Drawn0.refl _ | apply Drawn0.step)⟩
    · rw [if_neg c3] at H
      have c3b0 : (a0 == 128) = false := beq_eq_false_iff_ne.mpr c3
      have c3b1 : (a0 != 128) = true := bne_iff_ne.mpr c3
      (first | rw [c3b0] | (simp only [i64_w, i32_w]; rw [c3b0]) | skip)
      by_cases c4 : a0 = 131
      · rw [if_pos c4] at H
        have c4b0 : (a0 == 131) = true := beq_iff_eq.mpr c4
        have c4b1 : (a0 != 131) = false := bne_eq_false_iff_eq.mpr c4
        clear c4
        have H' := Aside0.mk H
        clear H
        go_wp2
        go_meet
        case rel => exact ⟨_, ((a0 == 131)), (by first | rfl | (simp; done) | (simp [*]; done)), H', ⟨by first | omega | exact Nat.le_refl _⟩, by repeat (first | exact Drawn0.refl _ | apply Drawn0.step)⟩
      · rw [if_neg c4] at H
        have c4b0 : (a0 == 131) = false := beq_eq_false_iff_ne.mpr c4
        have c4b1 : (a0 != 131) = true := bne_iff_ne.mpr c4
        have H' := Aside0.mk H
        clear H
        go_wp2
        go_meet
        case rel => exact ⟨_, ((a0 == 135)), (by first | rfl | (simp; done) | (simp [*]; done)), H', ⟨by first | omega | exact Nat.le_refl _⟩, by repeat (first | exact Drawn0.refl _ | apply Drawn0.step)⟩
  case rest =>
    clear HC2
    try clear p2
    try clear c3
    try clear c3b0
    try clear c3b1
    try clear c4
    try clear c4b0
    try clear c4b1
    obtain ⟨kq, x5_1, rfl, HA, HJ1, ⟨mc1, rfl⟩⟩ := hcut
    cases kq with
    | zero => exact absurd HA.out (by simp [reason_groups.j0])
    | succ kj1 =>
      have H := HA.out
      clear HA
      simp only [reason_groups.j0] at H
      by_cases c5 : x5_1 = true
      · subst c5
        have H1 : (some (Go.bits .or .i64 (Go.bits .or .i64 (Go.bits .or .i64 (Go.bits .or .i64 0 24) 2) 1) 32)) = some r := by rw [if_pos rfl] at H; exact H
        clear H
        have H := H1
        clear H1
        obtain rfl := Option.some.inj H
        go_wp2
        go_ret
        exact ⟨by first | rfl | (simp; done) | (simp [*]; done), by repeat (first | exact Drawn0.refl _ | apply Drawn0.step)⟩
      · replace c5 := Bool.eq_false_iff.mpr c5
        subst c5
        have H1 : (if a0 = 144 then (reason_groups.j1 kj1 a0 0 a0 (a0 == 144)) else (reason_groups.j1 kj1 a0 0 a0 (a0 == 153))) = some r := by rw [if_neg (show ¬ (false = true) by decide)] at H; exact H
        clear H
        have H := H1
        clear H1
        have HC6 := Aside0.mk H
        clear H
        go_upto_if 9 with (fail)
        go_cut [9] (fun v9 wc => ∃ (kq : Nat) (x9_5 : Bool), v9 = .bool x9_5 ∧ Aside0 (reason_groups.j1 kq a0 0 a0 x9_5 = some r) ∧ Aside0 (kq ≤ kj1) ∧ Drawn0 w wc)
        case first =>
          have H := HC6.out
          clear HC6
          by_cases c7 : a0 = 144
          · rw [if_pos c7] at H
            have c7b0 : (a0 == 144) = true := beq_iff_eq.mpr c7
            have c7b1 : (a0 != 144) = false := bne_eq_false_iff_eq.mpr c7
            clear c7
            (first | rw [c7b0] | (simp only [i64_w, i32_w]; rw [c7b0]) | skip)
            have H' := Aside0.mk H
            clear H
            go_wp2
            go_meet
            case rel => exact ⟨_, ((a0 == 144)), (by first | rfl | (simp; done) | (simp [*]; done)), H', ⟨by have := HJ1.out; first | omega | exact Nat.le_refl _⟩, by repeat (first | exact Drawn0.refl _ | apply Drawn0.step)⟩
          · rw [if_neg c7] at H
            have c7b0 : (a0 == 144) = false := beq_eq_false_iff_ne.mpr c7
            have c7b1 : (a0 != 144) = true := bne_iff_ne.mpr c7
            (first | rw [c7b0] | (simp only [i64_w, i32_w]; rw [c7b0]) | skip)
            have H' := Aside0.mk H
            clear H
            go_wp2
            go_meet
            case rel => exact ⟨_, ((a0 == 153)), (by first | rfl | (simp; done) | (simp [*]; done)), H', ⟨by have := HJ1.out; first | omega | exact Nat.le_refl _⟩, by repeat (first | exact Drawn0.refl _ | apply Drawn0.step)⟩
        case rest =>
          clear HC6
          try clear c1
          try clear p2
          try clear c3
          try clear c3b0
          try clear c3b1
          try clear c4
          try clear c4b0
          try clear c4b1
          try clear c5
          try clear c7
          try clear c7b0
          try clear c7b1
          try clear p2
          obtain ⟨kq, x9_5, rfl, HA, HJ5, ⟨mc5, rfl⟩⟩ := hcut
          cases kq with
          | zero => exact absurd HA.out (by simp [reason_groups.j1])
          | succ kj5 =>
            have H := HA.out
            clear HA
            simp only [reason_groups.j1] at H
            by_cases c8 : x9_5 = true
            · subst c8
              have H1 : (some (Go.bits .or .i64 (Go.bits .or .i64 (Go.bits .or .i64 0 2) 1) 32)) = some r := by rw [if_pos rfl] at H; exact H
              clear H
              have H := H1
              clear H1
              obtain rfl := Option.some.inj H
              go_wp2
              go_ret
              exact ⟨by first | rfl | (simp; done) | (simp [*]; done), by repeat (first | exact Drawn0.refl _ | apply Drawn0.step)⟩
            · replace c8 := Bool.eq_false_iff.mpr c8
              subst c8
              have H1 : (if a0 = 129 then (reason_groups.j2 kj5 a0 0 a0 (a0 == 129)) else (if a0 = 130 then (reason_groups.j2 kj5 a0 0 a0 (a0 == 130)) else (if a0 = 137 then (reason_groups.j2 kj5 a0 0 a0 (a0 == 137)) else (if a0 = 140 then (reason_groups.j2 kj5 a0 0 a0 (a0 == 140)) else (if a0 = 149 then (reason_groups.j2 kj5 a0 0 a0 (a0 == 149)) else (if a0 = 154 then (reason_groups.j2 kj5 a0 0 a0 (a0 == 154)) else (if a0 = 155 then (reason_groups.j2 kj5 a0 0 a0 (a0 == 155)) else (if a0 = 156 then (reason_groups.j2 kj5 a0 0 a0 (a0 == 156)) else (if a0 = 157 then (reason_groups.j2 kj5 a0 0 a0 (a0 == 157)) else (reason_groups.j2 kj5 a0 0 a0 (a0 == 159))))))))))) = some r := by rw [if_neg (show ¬ (false = true) by decide)] at H; exact H
              clear H
              have H := H1
              clear H1
              have HC9 := Aside0.mk H
              clear H
              go_upto_if 12 with (fail)
              go_cut [12] (fun v12 wc => ∃ (kq : Nat) (x12_8 : Bool), v12 = .bool x12_8 ∧ Aside0 (reason_groups.j2 kq a0 0 a0 x12_8 = some r) ∧ Aside0 (kq ≤ kj5) ∧ Drawn0 w wc)
              case first =>
                have H := HC9.out
                clear HC9
                by_cases c10 : a0 = 129
                · rw [if_pos c10] at H
                  have c10b0 : (a0 == 129) = true := beq_iff_eq.mpr c10
                  have c10b1 : (a0 != 129) = false := bne_eq_false_iff_eq.mpr c10
                  clear c10
                  (first | rw [c10b0] | (simp only [i64_w, i32_w]; rw [c10b0]) | skip)
                  have H' := Aside0.mk H
                  clear H
                  go_wp2
                  go_meet
                  case rel => exact ⟨_, ((a0 == 129)), (by first | rfl | (simp; done) | (simp [*]; done)), H', ⟨by have := HJ1.out; have := HJ5.out; first | omega | exact Nat.le_refl _⟩, by repeat (first | exact Drawn0.refl _ | apply Drawn0.step)⟩
                · rw [if_neg c10] at H
                  have c10b0 : (a0 == 129) = false := beq_eq_false_iff_ne.mpr c10
                  have c10b1 : (a0 != 129) = true := bne_iff_ne.mpr c10
                  (first | rw [c10b0] | (simp only [i64_w, i32_w]; rw [c10b0]) | skip)
                  by_cases c11 : a0 = 130
                  · rw [if_pos c11] at H
                    have c11b0 : (a0 == 130) = true := beq_iff_eq.mpr c11
                    have c11b1 : (a0 != 130) = false := bne_eq_false_iff_eq.mpr c11
                    clear c11
                    have H' := Aside0.mk H
                    clear H
                    go_wp2
                    go_meet
                    case rel => exact ⟨_, ((a0 == 130)), (by first | rfl | (simp; done) | (simp [*]; done)), H', ⟨by have := HJ1.out; have := HJ5.out; first | omega | exact Nat.le_refl _⟩, by repeat (first | exact Drawn0.refl _ | apply Drawn0.step)⟩
                  · rw [if_neg c11] at H
                    have c11b0 : (a0 == 130) = false := beq_eq_false_iff_ne.mpr c11
                    have c11b1 : (a0 != 130) = true := bne_iff_ne.mpr c11
                    by_cases c12 : a0 = 137
                    · rw [if_pos c12] at H
                      have c12b0 : (a0 == 137) = true := beq_iff_eq.mpr c12
                      have c12b1 : (a0 != 137) = false := bne_eq_false_iff_eq.mpr c12
                      clear c12
                      have H' := Aside0.mk H
                      clear H
                      go_wp2
                      go_meet
                      case rel => exact ⟨_, ((a0 == 137)), (by first | rfl | (simp; done) | (simp [*]; done)), H', ⟨by have := HJ1.out; have := HJ5.out; first | omega | exact Nat.le_refl _⟩, by repeat (first | exact Drawn0.refl _ | apply Drawn0.step)⟩
                    · rw [if_neg c12] at H
                      have c12b0 : (a0 == 137) = false := beq_eq_false_iff_ne.mpr c12
                      have c12b1 : (a0 != 137) = true := bne_iff_ne.mpr c12
                      by_cases c13 : a0 = 140
                      · rw [if_pos c13] at H
                        have c13b0 : (a0 == 140) = true := beq_iff_eq.mpr c13
                        have c13b1 : (a0 != 140) = false := bne_eq_false_iff_eq.mpr c13
                        clear c13
                        have H' := Aside0.mk H
                        clear H
                        go_wp2
                        go_meet
                        case rel => exact ⟨_, ((a0 == 140)), (by first | rfl | (simp; done) | (simp [*]; done)), H', ⟨by have := HJ1.out; have := HJ5.out; first | omega | exact Nat.le_refl _⟩, by repeat (first | exact Drawn0.refl _ | apply Drawn0.step)⟩
                      · rw [if_neg c13] at H
                        have c13b0 : (a0 == 140) = false := beq_eq_false_iff_ne.mpr c13
                        have c13b1 : (a0 != 140) = true := bne_iff_ne.mpr c13
                        by_cases c14 : a0 = 149
                        · rw [if_pos c14] at H
                          have c14b0 : (a0 == 149) = true := beq_iff_eq.mpr c14
                          have c14b1 : (a0 != 149) = false := bne_eq_false_iff_eq.mpr c14
                          clear c14
                          have H' := Aside0.mk H
                          clear H
                          go_wp2
                          go_meet
                          case rel => exact ⟨_, ((a0 == 149)), (by first | rfl | (simp; done) | (simp [*]; done)), H', ⟨by have := HJ1.out; have := HJ5.out; first | omega | exact Nat.le_refl _⟩, by repeat (first | exact Drawn0.refl _ | apply Drawn0.step)⟩
                        · rw [if_neg c14] at H
                          have c14b0 : (a0 == 149) = false := beq_eq_false_iff_ne.mpr c14
                          have c14b1 : (a0 != 149) = true := bne_iff_ne.mpr c14
                          by_cases c15 : a0 = 154
                          · rw [if_pos c15] at H
                            have c15b0 : (a0 == 154) = true := beq_iff_eq.mpr c15
                            have c15b1 : (a0 != 154) = false := bne_eq_false_iff_eq.mpr c15
                            clear c15
                            have H' := Aside0.mk H
                            clear H
                            go_wp2
                            go_meet
                            case rel => exact ⟨_, ((a0 == 154)), (by first | rfl | (simp; done) | (simp [*]; done)), H', ⟨by have := HJ1.out; have := HJ5.out; first | omega | exact Nat.le_refl _⟩, by repeat (first | exact Drawn0.refl _ | apply Drawn0.step)⟩
                          · rw [if_neg c15] at H
                            have c15b0 : (a0 == 154) = false := beq_eq_false_iff_ne.mpr c15
                            have c15b1 : (a0 != 154) = true := bne_iff_ne.mpr c15
                            by_cases c16 : a0 = 155
                            · rw [if_pos c16] at H
                              have c16b0 : (a0 == 155) = true := beq_iff_eq.mpr c16
                              have c16b1 : (a0 != 155) = false := bne_eq_false_iff_eq.mpr c16
                              clear c16
                              have H' := Aside0.mk H
                              clear H
                              go_wp2
                              go_meet
                              case rel => exact ⟨_, ((a0 == 155)), (by first | rfl | (simp; done) | (simp [*]; done)), H', ⟨by have := HJ1.out; have := HJ5.out; first | omega | exact Nat.le_refl _⟩, by repeat (first | exact Drawn0.refl _ | apply Drawn0.step)⟩
                            · rw [if_neg c16] at H
                              have c16b0 : (a0 == 155) = false := beq_eq_false_iff_ne.mpr c16
                              have c16b1 : (a0 != 155) = true := bne_iff_ne.mpr c16
                              by_cases c17 : a0 = 156
                              · rw [if_pos c17] at H
                                have c17b0 : (a0 == 156) = true := beq_iff_eq.mpr c17
                                have c17b1 : (a0 != 156) = false := bne_eq_false_iff_eq.mpr c17
                                clear c17
                                have H' := Aside0.mk H
                                clear H
                                go_wp2
                                go_meet
                                case rel => exact ⟨_, ((a0 == 156)), (by first | rfl | (simp; done) | (simp [*]; done)), H', ⟨by have := HJ1.out; have := HJ5.out; first | omega | exact Nat.le_refl _⟩, by repeat (first | exact Drawn0.refl _ | apply Drawn0.step)⟩
                              · rw [if_neg c17] at H
                                have c17b0 : (a0 == 156) = false := beq_eq_false_iff_ne.mpr c17
                                have c17b1 : (a0 != 156) = true := bne_iff_ne.mpr c17
                                by_cases c18 : a0 = 157
                                · rw [if_pos c18] at H
                                  have c18b0 : (a0 == 157) = true := beq_iff_eq.mpr c18
                                  have c18b1 : (a0 != 157) = false := bne_eq_false_iff_eq.mpr c18
                                  clear c18
                                  have H' := Aside0.mk H
                                  clear H
                                  go_wp2
                                  go_meet
                                  case rel => exact ⟨_, ((a0 == 157)), (by first | rfl | (simp; done) | (simp [*]; done)), H', ⟨by have := HJ1.out; have := HJ5.out; first | omega | exact Nat.le_refl _⟩, by repeat (first | exact Drawn0.refl _ | apply Drawn0.step)⟩
                                · rw [if_neg c18] at H
                                  have c18b0 : (a0 == 157) = false := beq_eq_false_iff_ne.mpr c18
                                  have c18b1 : (a0 != 157) = true := bne_iff_ne.mpr c18
                                  have H' := Aside0.mk H
                                  clear H
                                  go_wp2
                                  go_meet
                                  case rel => exact ⟨_, ((a0 == 159)), (by first | rfl | (simp; done) | (simp [*]; done)), H', ⟨by have := HJ1.out; have := HJ5.out; first | omega | exact Nat.le_refl _⟩, by repeat (first | exact Drawn0.refl _ | apply Drawn0.step)⟩
              case rest =>
                clear HC9
                try clear c1
                try clear p2
                try clear c3
                try clear c3b0
                try clear c3b1
                try clear c4
                try clear c4b0
                try clear c4b1
                try clear c5
                try clear c7
                try clear c7b0
                try clear c7b1
                try clear c8
                try clear c10
                try clear c10b0
                try clear c10b1
                try clear c11
                try clear c11b0
                try clear c11b1
                try clear c12
                try clear c12b0
                try clear c12b1
                try clear c13
                try clear c13b0
                try clear c13b1
                try clear c14
                try clear c14b0
                try clear c14b1
                try clear c15
                try clear c15b0
                try clear c15b1
                try clear c16
                try clear c16b0
                try clear c16b1
                try clear c17
                try clear c17b0
                try clear c17b1
                try clear c18
                try clear c18b0
                try clear c18b1
                try clear p2
                obtain ⟨kq, x12_8, rfl, HA, HJ8, ⟨mc8, rfl⟩⟩ := hcut
                cases kq with
                | zero => exact absurd HA.out (by simp [reason_groups.j2])
                | succ kj8 =>
                  have H := HA.out
                  clear HA
                  simp only [reason_groups.j2] at H
                  by_cases c19 : x12_8 = true
                  · subst c19
                    have H1 : (some (Go.bits .or .i64 (Go.bits .or .i64 0 1) 32)) = some r := by rw [if_pos rfl] at H; exact H
                    clear H
                    have H := H1
                    clear H1
                    obtain rfl := Option.some.inj H
                    go_wp2
                    go_ret
                    exact ⟨by first | rfl | (simp; done) | (simp [*]; done), by repeat (first | exact Drawn0.refl _ | apply Drawn0.step)⟩
                  · replace c19 := Bool.eq_false_iff.mpr c19
                    subst c19
                    have H1 : (if a0 = 139 then (reason_groups.j3 kj8 a0 0 a0 (a0 == 139)) else (if a0 = 141 then (reason_groups.j3 kj8 a0 0 a0 (a0 == 141)) else (if a0 = 142 then (reason_groups.j3 kj8 a0 0 a0 (a0 == 142)) else (if a0 = 147 then (reason_groups.j3 kj8 a0 0 a0 (a0 == 147)) else (if a0 = 148 then (reason_groups.j3 kj8 a0 0 a0 (a0 == 148)) else (if a0 = 150 then (reason_groups.j3 kj8 a0 0 a0 (a0 == 150)) else (if a0 = 152 then (reason_groups.j3 kj8 a0 0 a0 (a0 == 152)) else (reason_groups.j3 kj8 a0 0 a0 (a0 == 160))))))))) = some r := by rw [if_neg (show ¬ (false = true) by decide)] at H; exact H
                    clear H
                    have H := H1
                    clear H1
                    have HC20 := Aside0.mk H
                    clear H
                    go_upto_if 23 with (fail)
                    go_cut [23] (fun v23 wc => ∃ (kq : Nat) (x23_19 : Bool), v23 = .bool x23_19 ∧ Aside0 (reason_groups.j3 kq a0 0 a0 x23_19 = some r) ∧ Aside0 (kq ≤ kj8) ∧ Drawn0 w wc)
                    case first =>
                      have H := HC20.out
                      clear HC20
                      by_cases c21 : a0 = 139
                      · rw [if_pos c21] at H
                        have c21b0 : (a0 == 139) = true := beq_iff_eq.mpr c21
                        have c21b1 : (a0 != 139) = false := bne_eq_false_iff_eq.mpr c21
                        clear c21
                        (first | rw [c21b0] | (simp only [i64_w, i32_w]; rw [c21b0]) | skip)
                        have H' := Aside0.mk H
                        clear H
                        go_wp2
                        go_meet
                        case rel => exact ⟨_, ((a0 == 139)), (by first | rfl | (simp; done) | (simp [*]; done)), H', ⟨by have := HJ1.out; have := HJ5.out; have := HJ8.out; first | omega | exact Nat.le_refl _⟩, by repeat (first | exact Drawn0.refl _ | apply Drawn0.step)⟩
                      · rw [if_neg c21] at H
                        have c21b0 : (a0 == 139) = false := beq_eq_false_iff_ne.mpr c21
                        have c21b1 : (a0 != 139) = true := bne_iff_ne.mpr c21
                        (first | rw [c21b0] | (simp only [i64_w, i32_w]; rw [c21b0]) | skip)
                        by_cases c22 : a0 = 141
                        · rw [if_pos c22] at H
                          have c22b0 : (a0 == 141) = true := beq_iff_eq.mpr c22
                          have c22b1 : (a0 != 141) = false := bne_eq_false_iff_eq.mpr c22
                          clear c22
                          have H' := Aside0.mk H
                          clear H
                          go_wp2
                          go_meet
                          case rel => exact ⟨_, ((a0 == 141)), (by first | rfl | (simp; done) | (simp [*]; done)), H', ⟨by have := HJ1.out; have := HJ5.out; have := HJ8.out; first | omega | exact Nat.le_refl _⟩, by repeat (first | exact Drawn0.refl _ | apply Drawn0.step)⟩
                        · rw [if_neg c22] at H
                          have c22b0 : (a0 == 141) = false := beq_eq_false_iff_ne.mpr c22
                          have c22b1 : (a0 != 141) = true := bne_iff_ne.mpr c22
                          by_cases c23 : a0 = 142
                          · rw [if_pos c23] at H
                            have c23b0 : (a0 == 142) = true := beq_iff_eq.mpr c23
                            have c23b1 : (a0 != 142) = false := bne_eq_false_iff_eq.mpr c23
                            clear c23
                            have H' := Aside0.mk H
                            clear H
                            go_wp2
                            go_meet
                            case rel => exact ⟨_, ((a0 == 142)), (by first | rfl | (simp; done) | (simp [*]; done)), H', ⟨by have := HJ1.out; have := HJ5.out; have := HJ8.out; first | omega | exact Nat.le_refl _⟩, by repeat (first | exact Drawn0.refl _ | apply Drawn0.step)⟩
                          · rw [if_neg c23] at H
                            have c23b0 : (a0 == 142) = false := beq_eq_false_iff_ne.mpr c23
                            have c23b1 : (a0 != 142) = true := bne_iff_ne.mpr c23
                            by_cases c24 : a0 = 147
                            · rw [if_pos c24] at H
                              have c24b0 : (a0 == 147) = true := beq_iff_eq.mpr c24
                              have c24b1 : (a0 != 147) = false := bne_eq_false_iff_eq.mpr c24
                              clear c24
                              have H' := Aside0.mk H
                              clear H
                              go_wp2
                              go_meet
                              case rel => exact ⟨_, ((a0 == 147)), (by first | rfl | (simp; done) | (simp [*]; done)), H', ⟨by have := HJ1.out; have := HJ5.out; have := HJ8.out; first | omega | exact Nat.le_refl _⟩, by repeat (first | exact Drawn0.refl _ | apply Drawn0.step)⟩
                            · rw [if_neg c24] at H
                              have c24b0 : (a0 == 147) = false := beq_eq_false_iff_ne.mpr c24
                              have c24b1 : (a0 != 147) = true := bne_iff_ne.mpr c24
                              by_cases c25 : a0 = 148
                              · rw [if_pos c25] at H
                                have c25b0 : (a0 == 148) = true := beq_iff_eq.mpr c25
                                have c25b1 : (a0 != 148) = false := bne_eq_false_iff_eq.mpr c25
                                clear c25
                                have H' := Aside0.mk H
                                clear H
                                go_wp2
                                go_meet
                                case rel => exact ⟨_, ((a0 == 148)), (by first | rfl | (simp; done) | (simp [*]; done)), H', ⟨by have := HJ1.out; have := HJ5.out; have := HJ8.out; first | omega | exact Nat.le_refl _⟩, by repeat (first | exact Drawn0.refl _ | apply Drawn0.step)⟩
                              · rw [if_neg c25] at H
                                have c25b0 : (a0 == 148) = false := beq_eq_false_iff_ne.mpr c25
                                have c25b1 : (a0 != 148) = true := bne_iff_ne.mpr c25
                                by_cases c26 : a0 = 150
                                · rw [if_pos c26] at H
                                  have c26b0 : (a0 == 150) = true := beq_iff_eq.mpr c26
                                  have c26b1 : (a0 != 150) = false := bne_eq_false_iff_eq.mpr c26
                                  clear c26
                                  have H' := Aside0.mk H
                                  clear H
                                  go_wp2
                                  go_meet
                                  case rel => exact ⟨_, ((a0 == 150)), (by first | rfl | (simp; done) | (simp [*]; done)), H', ⟨by have := HJ1.out; have := HJ5.out; have := HJ8.out; first | omega | exact Nat.le_refl _⟩, by repeat (first | exact Drawn0.refl _ | apply Drawn0.step)⟩
                                · rw [if_neg c26] at H
                                  have c26b0 : (a0 == 150) = false := beq_eq_false_iff_ne.mpr c26
                                  have c26b1 : (a0 != 150) = true := bne_iff_ne.mpr c26
                                  by_cases c27 : a0 = 152
                                  · rw [if_pos c27] at H
                                    have c27b0 : (a0 == 152) = true := beq_iff_eq.mpr c27
                                    have c27b1 : (a0 != 152) = false := bne_eq_false_iff_eq.mpr c27
                                    clear c27
                                    have H' := Aside0.mk H
                                    clear H
                                    go_wp2
                                    go_meet
                                    case rel => exact ⟨_, ((a0 == 152)), (by first | rfl | (simp; done) | (simp [*]; done)), H', ⟨by have := HJ1.out; have := HJ5.out; have := HJ8.out; first | omega | exact Nat.le_refl _⟩, by repeat (first | exact Drawn0.refl _ | apply Drawn0.step)⟩
                                  · rw [if_neg c27] at H
                                    have c27b0 : (a0 == 152) = false := beq_eq_false_iff_ne.mpr c27
                                    have c27b1 : (a0 != 152) = true := bne_iff_ne.mpr c27
                                    have H' := Aside0.mk H
                                    clear H
                                    go_wp2
                                    go_meet
                                    case rel => exact ⟨_, ((a0 == 160)), (by first | rfl | (simp; done) | (simp [*]; done)), H', ⟨by have := HJ1.out; have := HJ5.out; have := HJ8.out; first | omega | exact Nat.le_refl _⟩, by repeat (first | exact Drawn0.refl _ | apply Drawn0.step)⟩
                    case rest =>
                      clear HC20
                      try clear c1
                      try clear c2
                      try clear p2
                      try clear c3
                      try clear c3b0
                      try clear c3b1
                      try clear c4
                      try clear c4b0
                      try clear c4b1
                      try clear c5
                      try clear c7
                      try clear c7b0
                      try clear c7b1
                      try clear c8
                      try clear c10
                      try clear c10b0
                      try clear c10b1
                      try clear c11
                      try clear c11b0
                      try clear c11b1
                      try clear c12
                      try clear c12b0
                      try clear c12b1
                      try clear c13
                      try clear c13b0
                      try clear c13b1
                      try clear c14
                      try clear c14b0
                      try clear c14b1
                      try clear c15
                      try clear c15b0
                      try clear c15b1
                      try clear c16
                      try clear c16b0
                      try clear c16b1
                      try clear c17
                      try clear c17b0
                      try clear c17b1
                      try clear c18
                      try clear c18b0
                      try clear c18b1
                      try clear c19
                      try clear c21
                      try clear c21b0
                      try clear c21b1
                      try clear c22
                      try clear c22b0
                      try clear c22b1
                      try clear c23
                      try clear c23b0
                      try clear c23b1
                      try clear c24
                      try clear c24b0
                      try clear c24b1
                      try clear c25
                      try clear c25b0
                      try clear c25b1
                      try clear c26
                      try clear c26b0
                      try clear c26b1
                      try clear c27
                      try clear c27b0
                      try clear c27b1
                      try clear p2
                      obtain ⟨kq, x23_19, rfl, HA, HJ19, ⟨mc19, rfl⟩⟩ := hcut
                      cases kq with
                      | zero => exact absurd HA.out (by simp [reason_groups.j3])
                      | succ kj19 =>
                        have H := HA.out
                        clear HA
                        simp only [reason_groups.j3] at H
                        by_cases c28 : x23_19 = true
                        · subst c28
                          have H1 : (some (Go.bits .or .i64 0 32)) = some r := by rw [if_pos rfl] at H; exact H
                          clear H
                          have H := H1
                          clear H1
                          obtain rfl := Option.some.inj H
                          go_wp2
                          go_ret
                          exact ⟨by first | rfl | (simp; done) | (simp [*]; done), by repeat (first | exact Drawn0.refl _ | apply Drawn0.step)⟩
                        · replace c28 := Bool.eq_false_iff.mpr c28
                          subst c28
                          have H1 : (if a0 = 151 then (some (Go.bits .or .i64 (Go.bits .or .i64 (Go.bits .or .i64 0 3) 8) 32)) else (if a0 = 158 then (reason_groups.j4 kj19 a0 0 a0 (a0 == 158)) else (if a0 = 161 then (reason_groups.j4 kj19 a0 0 a0 (a0 == 161)) else (reason_groups.j4 kj19 a0 0 a0 (a0 == 162))))) = some r := by rw [if_neg (show ¬ (false = true) by decide)] at H; exact H
                          clear H
                          have H := H1
                          clear H1
                          by_cases c29 : a0 = 151
                          · rw [if_pos c29] at H
                            have c29b0 : (a0 == 151) = true := beq_iff_eq.mpr c29
                            have c29b1 : (a0 != 151) = false := bne_eq_false_iff_eq.mpr c29
                            clear c29
                            obtain rfl := Option.some.inj H
                            go_wp2
                            go_ret
                            exact ⟨by first | rfl | (simp; done) | (simp [*]; done), by repeat (first | exact Drawn0.refl _ | apply Drawn0.step)⟩
                          · rw [if_neg c29] at H
                            have c29b0 : (a0 == 151) = false := beq_eq_false_iff_ne.mpr c29
                            have c29b1 : (a0 != 151) = true := bne_iff_ne.mpr c29
                            have HC30 := Aside0.mk H
                            clear H
                            go_upto_if 34 with (fail)
                            go_cut [34] (fun v34 wc => ∃ (kq : Nat) (x34_29 : Bool), v34 = .bool x34_29 ∧ Aside0 (reason_groups.j4 kq a0 0 a0 x34_29 = some r) ∧ Aside0 (kq ≤ kj19) ∧ Drawn0 w wc)
                            case first =>
                              have H := HC30.out
                              clear HC30
                              by_cases c31 : a0 = 158
                              · rw [if_pos c31] at H
                                have c31b0 : (a0 == 158) = true := beq_iff_eq.mpr c31
                                have c31b1 : (a0 != 158) = false := bne_eq_false_iff_eq.mpr c31
                                clear c31
                                (first | rw [c31b0] | (simp only [i64_w, i32_w]; rw [c31b0]) | skip)
                                have H' := Aside0.mk H
                                clear H
                                go_wp2
                                go_meet
                                case rel => exact ⟨_, ((a0 == 158)), (by first | rfl | (simp; done) | (simp [*]; done)), H', ⟨by have := HJ1.out; have := HJ5.out; have := HJ8.out; have := HJ19.out; first | omega | exact Nat.le_refl _⟩, by repeat (first | exact Drawn0.refl _ | apply Drawn0.step)⟩
                              · rw [if_neg c31] at H
                                have c31b0 : (a0 == 158) = false := beq_eq_false_iff_ne.mpr c31
                                have c31b1 : (a0 != 158) = true := bne_iff_ne.mpr c31
                                (first | rw [c31b0] | (simp only [i64_w, i32_w]; rw [c31b0]) | skip)
                                by_cases c32 : a0 = 161
                                · rw [if_pos c32] at H
                                  have c32b0 : (a0 == 161) = true := beq_iff_eq.mpr c32
                                  have c32b1 : (a0 != 161) = false := bne_eq_false_iff_eq.mpr c32
                                  clear c32
                                  have H' := Aside0.mk H
                                  clear H
                                  go_wp2
                                  go_meet
                                  case rel => exact ⟨_, ((a0 == 161)), (by first | rfl | (simp; done) | (simp [*]; done)), H', ⟨by have := HJ1.out; have := HJ5.out; have := HJ8.out; have := HJ19.out; first | omega | exact Nat.le_refl _⟩, by repeat (first | exact Drawn0.refl _ | apply Drawn0.step)⟩
                                · rw [if_neg c32] at H
                                  have c32b0 : (a0 == 161) = false := beq_eq_false_iff_ne.mpr c32
                                  have c32b1 : (a0 != 161) = true := bne_iff_ne.mpr c32
                                  have H' := Aside0.mk H
                                  clear H
                                  go_wp2
                                  go_meet
                                  case rel => exact ⟨_, ((a0 == 162)), (by first | rfl | (simp; done) | (simp [*]; done)), H', ⟨by have := HJ1.out; have := HJ5.out; have := HJ8.out; have := HJ19.out; first | omega | exact Nat.le_refl _⟩, by repeat (first | exact Drawn0.refl _ | apply Drawn0.step)⟩
                            case rest =>
                              clear HC30
                              try clear c1
                              try clear c2
                              try clear p2
                              try clear c3
                              try clear c3b0
                              try clear c3b1
                              try clear c4
                              try clear c4b0
                              try clear c4b1
                              try clear c5
                              try clear c7
                              try clear c7b0
                              try clear c7b1
                              try clear c8
                              try clear c10
                              try clear c10b0
                              try clear c10b1
                              try clear c11
                              try clear c11b0
                              try clear c11b1
                              try clear c12
                              try clear c12b0
                              try clear c12b1
                              try clear c13
                              try clear c13b0
                              try clear c13b1
                              try clear c14
                              try clear c14b0
                              try clear c14b1
                              try clear c15
                              try clear c15b0
                              try clear c15b1
                              try clear c16
                              try clear c16b0
                              try clear c16b1
                              try clear c17
                              try clear c17b0
                              try clear c17b1
                              try clear c18
                              try clear c18b0
                              try clear c18b1
                              try clear c19
                              try clear c21
                              try clear c21b0
                              try clear c21b1
                              try clear c22
                              try clear c22b0
                              try clear c22b1
                              try clear c23
                              try clear c23b0
                              try clear c23b1
                              try clear c24
                              try clear c24b0
                              try clear c24b1
                              try clear c25
                              try clear c25b0
                              try clear c25b1
                              try clear c26
                              try clear c26b0
                              try clear c26b1
                              try clear c27
                              try clear c27b0
                              try clear c27b1
                              try clear c28
                              try clear c29
                              try clear c29b0
                              try clear c29b1
                              try clear c31
                              try clear c31b0
                              try clear c31b1
                              try clear c32
                              try clear c32b0
                              try clear c32b1
                              try clear p2
                              obtain ⟨kq, x34_29, rfl, HA, HJ29, ⟨mc29, rfl⟩⟩ := hcut
                              cases kq with
                              | zero => exact absurd HA.out (by simp [reason_groups.j4])
                              | succ kj29 =>
                                have H := HA.out
                                clear HA
                                simp only [reason_groups.j4] at H
                                by_cases c33 : x34_29 = true
                                · subst c33
                                  have H1 : (some (Go.bits .or .i64 (Go.bits .or .i64 0 8) 32)) = some r := by rw [if_pos rfl] at H; exact H
                                  clear H
                                  have H := H1
                                  clear H1
                                  obtain rfl := Option.some.inj H
                                  go_wp2
                                  go_ret
                                  exact ⟨by first | rfl | (simp; done) | (simp [*]; done), by repeat (first | exact Drawn0.refl _ | apply Drawn0.step)⟩
                                · replace c33 := Bool.eq_false_iff.mpr c33
                                  subst c33
                                  have H1 : (if a0 = 143 then (some 56) else (if a0 = 145 then (some 26) else (if a0 = 132 then (reason_groups.j5 kj29 a0 a0 (a0 == 132)) else (if a0 = 133 then (reason_groups.j5 kj29 a0 a0 (a0 == 133)) else (if a0 = 134 then (reason_groups.j5 kj29 a0 a0 (a0 == 134)) else (if a0 = 136 then (reason_groups.j5 kj29 a0 a0 (a0 == 136)) else (reason_groups.j5 kj29 a0 a0 (a0 == 138)))))))) = some r := by rw [if_neg (show ¬ (false = true) by decide)] at H; exact H
                                  clear H
                                  have H := H1
                                  clear H1
                                  by_cases c34 : a0 = 143
                                  · rw [if_pos c34] at H
                                    have c34b0 : (a0 == 143) = true := beq_iff_eq.mpr c34
                                    have c34b1 : (a0 != 143) = false := bne_eq_false_iff_eq.mpr c34
                                    clear c34
                                    obtain rfl := Option.some.inj H
                                    go_wp2
                                    go_ret
                                    exact ⟨by first | rfl | (simp; done) | (simp [*]; done), by repeat (first | exact Drawn0.refl _ | apply Drawn0.step)⟩
                                  · rw [if_neg c34] at H
                                    have c34b0 : (a0 == 143) = false := beq_eq_false_iff_ne.mpr c34
                                    have c34b1 : (a0 != 143) = true := bne_iff_ne.mpr c34
                                    by_cases c35 : a0 = 145
                                    · rw [if_pos c35] at H
                                      have c35b0 : (a0 == 145) = true := beq_iff_eq.mpr c35
                                      have c35b1 : (a0 != 145) = false := bne_eq_false_iff_eq.mpr c35
                                      clear c35
                                      obtain rfl := Option.some.inj H
                                      go_wp2
                                      go_ret
                                      exact ⟨by first | rfl | (simp; done) | (simp [*]; done), by repeat (first | exact Drawn0.refl _ | apply Drawn0.step)⟩
                                    · rw [if_neg c35] at H
                                      have c35b0 : (a0 == 145) = false := beq_eq_false_iff_ne.mpr c35
                                      have c35b1 : (a0 != 145) = true := bne_iff_ne.mpr c35
                                      have HC36 := Aside0.mk H
                                      clear H
                                      go_upto_if 42 with (fail)
                                      go_cut [42] (fun v42 wc => ∃ (kq : Nat) (x42_35 : Bool), v42 = .bool x42_35 ∧ Aside0 (reason_groups.j5 kq a0 a0 x42_35 = some r) ∧ Aside0 (kq ≤ kj29) ∧ Drawn0 w wc)
                                      case first =>
                                        have H := HC36.out
                                        clear HC36
                                        by_cases c37 : a0 = 132
                                        · rw [if_pos c37] at H
                                          have c37b0 : (a0 == 132) = true := beq_iff_eq.mpr c37
                                          have c37b1 : (a0 != 132) = false := bne_eq_false_iff_eq.mpr c37
                                          clear c37
                                          (first | rw [c37b0] | (simp only [i64_w, i32_w]; rw [c37b0]) | skip)
                                          have H' := Aside0.mk H
                                          clear H
                                          go_wp2
                                          go_meet
                                          case rel => exact ⟨_, ((a0 == 132)), (by first | rfl | (simp; done) | (simp [*]; done)), H', ⟨by have := HJ1.out; have := HJ5.out; have := HJ8.out; have := HJ19.out; have := HJ29.out; first | omega | exact Nat.le_refl _⟩, by repeat (first | exact Drawn0.refl _ | apply Drawn0.step)⟩
                                        · rw [if_neg c37] at H
                                          have c37b0 : (a0 == 132) = false := beq_eq_false_iff_ne.mpr c37
                                          have c37b1 : (a0 != 132) = true := bne_iff_ne.mpr c37
                                          (first | rw [c37b0] | (simp only [i64_w, i32_w]; rw [c37b0]) | skip)
                                          by_cases c38 : a0 = 133
                                          · rw [if_pos c38] at H
                                            have c38b0 : (a0 == 133) = true := beq_iff_eq.mpr c38
                                            have c38b1 : (a0 != 133) = false := bne_eq_false_iff_eq.mpr c38
                                            clear c38
                                            have H' := Aside0.mk H
                                            clear H
                                            go_wp2
                                            go_meet
                                            case rel => exact ⟨_, ((a0 == 133)), (by first | rfl | (simp; done) | (simp [*]; done)), H', ⟨by have := HJ1.out; have := HJ5.out; have := HJ8.out; have := HJ19.out; have := HJ29.out; first | omega | exact Nat.le_refl _⟩, by repeat (first | exact Drawn0.refl _ | apply Drawn0.step)⟩
                                          · rw [if_neg c38] at H
                                            have c38b0 : (a0 == 133) = false := beq_eq_false_iff_ne.mpr c38
                                            have c38b1 : (a0 != 133) = true := bne_iff_ne.mpr c38
                                            by_cases c39 : a0 = 134
                                            · rw [if_pos c39] at H
                                              have c39b0 : (a0 == 134) = true := beq_iff_eq.mpr c39
                                              have c39b1 : (a0 != 134) = false := bne_eq_false_iff_eq.mpr c39
                                              clear c39
                                              have H' := Aside0.mk H
                                              clear H
                                              go_wp2
                                              go_meet
                                              case rel => exact ⟨_, ((a0 == 134)), (by first | rfl | (simp; done) | (simp [*]; done)), H', ⟨by have := HJ1.out; have := HJ5.out; have := HJ8.out; have := HJ19.out; have := HJ29.out; first | omega | exact Nat.le_refl _⟩, by repeat (first | exact Drawn0.refl _ | apply Drawn0.step)⟩
                                            · rw [if_neg c39] at H
                                              have c39b0 : (a0 == 134) = false := beq_eq_false_iff_ne.mpr c39
                                              have c39b1 : (a0 != 134) = true := bne_iff_ne.mpr c39
                                              by_cases c40 : a0 = 136
                                              · rw [if_pos c40] at H
                                                have c40b0 : (a0 == 136) = true := beq_iff_eq.mpr c40
                                                have c40b1 : (a0 != 136) = false := bne_eq_false_iff_eq.mpr c40
                                                clear c40
                                                have H' := Aside0.mk H
                                                clear H
                                                go_wp2
                                                go_meet
                                                case rel => exact ⟨_, ((a0 == 136)), (by first | rfl | (simp; done) | (simp [*]; done)), H', ⟨by have := HJ1.out; have := HJ5.out; have := HJ8.out; have := HJ19.out; have := HJ29.out; first | omega | exact Nat.le_refl _⟩, by repeat (first | exact Drawn0.refl _ | apply Drawn0.step)⟩
                                              · rw [if_neg c40] at H
                                                have c40b0 : (a0 == 136) = false := beq_eq_false_iff_ne.mpr c40
                                                have c40b1 : (a0 != 136) = true := bne_iff_ne.mpr c40
                                                have H' := Aside0.mk H
                                                clear H
                                                go_wp2
                                                go_meet
                                                case rel => exact ⟨_, ((a0 == 138)), (by first | rfl | (simp; done) | (simp [*]; done)), H', ⟨by have := HJ1.out; have := HJ5.out; have := HJ8.out; have := HJ19.out; have := HJ29.out; first | omega | exact Nat.le_refl _⟩, by repeat (first | exact Drawn0.refl _ | apply Drawn0.step)⟩
                                      case rest =>
                                        clear HC36
                                        try clear c1
                                        try clear c2
                                        try clear p2
                                        try clear c3
                                        try clear c3b0
                                        try clear c3b1
                                        try clear c4
                                        try clear c4b0
                                        try clear c4b1
                                        try clear c5
                                        try clear c7
                                        try clear c7b0
                                        try clear c7b1
                                        try clear c8
                                        try clear c10
                                        try clear c10b0
                                        try clear c10b1
                                        try clear c11
                                        try clear c11b0
                                        try clear c11b1
                                        try clear c12
                                        try clear c12b0
                                        try clear c12b1
                                        try clear c13
                                        try clear c13b0
                                        try clear c13b1
                                        try clear c14
                                        try clear c14b0
                                        try clear c14b1
                                        try clear c15
                                        try clear c15b0
                                        try clear c15b1
                                        try clear c16
                                        try clear c16b0
                                        try clear c16b1
                                        try clear c17
                                        try clear c17b0
                                        try clear c17b1
                                        try clear c18
                                        try clear c18b0
                                        try clear c18b1
                                        try clear c19
                                        try clear c21
                                        try clear c21b0
                                        try clear c21b1
                                        try clear c22
                                        try clear c22b0
                                        try clear c22b1
                                        try clear c23
                                        try clear c23b0
                                        try clear c23b1
                                        try clear c24
                                        try clear c24b0
                                        try clear c24b1
                                        try clear c25
                                        try clear c25b0
                                        try clear c25b1
                                        try clear c26
                                        try clear c26b0
                                        try clear c26b1
                                        try clear c27
                                        try clear c27b0
                                        try clear c27b1
                                        try clear c28
                                        try clear c29
                                        try clear c29b0
                                        try clear c29b1
                                        try clear c31
                                        try clear c31b0
                                        try clear c31b1
                                        try clear c32
                                        try clear c32b0
                                        try clear c32b1
                                        try clear c33
                                        try clear c34
                                        try clear c34b0
                                        try clear c34b1
                                        try clear c35
                                        try clear c35b0
                                        try clear c35b1
                                        try clear c37
                                        try clear c37b0
                                        try clear c37b1
                                        try clear c38
                                        try clear c38b0
                                        try clear c38b1
                                        try clear c39
                                        try clear c39b0
                                        try clear c39b1
                                        try clear c40
                                        try clear c40b0
                                        try clear c40b1
                                        try clear p2
                                        obtain ⟨kq, x42_35, rfl, HA, HJ35, ⟨mc35, rfl⟩⟩ := hcut
                                        cases kq with
                                        | zero => exact absurd HA.out (by simp [reason_groups.j5])
                                        | succ kj35 =>
                                          have H := HA.out
                                          clear HA
                                          simp only [reason_groups.j5] at H
                                          by_cases c41 : x42_35 = true
                                          · subst c41
                                            have H1 : (some 1) = some r := by rw [if_pos rfl] at H; exact H
                                            clear H
                                            have H := H1
                                            clear H1
                                            obtain rfl := Option.some.inj H
                                            go_wp2
                                            go_ret
                                            exact ⟨by first | rfl | (simp; done) | (simp [*]; done), by repeat (first | exact Drawn0.refl _ | apply Drawn0.step)⟩
                                          · replace c41 := Bool.eq_false_iff.mpr c41
                                            subst c41
                                            have H1 : (if a0 = 146 then (some 4) else ((reason_good.f kj35 a0).bind fun t101 => (some t101))) = some r := by rw [if_neg (show ¬ (false = true) by decide)] at H; exact H
                                            clear H
                                            have H := H1
                                            clear H1
                                            by_cases c42 : a0 = 146
                                            · rw [if_pos c42] at H
                                              have c42b0 : (a0 == 146) = true := beq_iff_eq.mpr c42
                                              have c42b1 : (a0 != 146) = false := bne_eq_false_iff_eq.mpr c42
                                              clear c42
                                              obtain rfl := Option.some.inj H
                                              go_wp2
                                              go_ret
                                              exact ⟨by first | rfl | (simp; done) | (simp [*]; done), by repeat (first | exact Drawn0.refl _ | apply Drawn0.step)⟩
                                            · rw [if_neg c42] at H
                                              have c42b0 : (a0 == 146) = false := beq_eq_false_iff_ne.mpr c42
                                              have c42b1 : (a0 != 146) = true := bne_iff_ne.mpr c42
                                              replace H := Option.bind_eq_some_iff.mp H
                                              obtain ⟨t101, A430, H⟩ := H
                                              replace H : (some t101) = some r := H
                                              have A43 := Aside0.mk A430
                                              clear A430
                                              obtain rfl := Option.some.inj H
                                              go_wp2_with (first | ((with_reducible refine gate_callee (f := 63) rfl ?_); refine goesL_ (some 64) rfl rfl Try.func63 (by kernel_rfl) rfl #[.int .i64 a0] rfl (by (try simp only [List.map_toArray, List.map_cons, List.map_nil]); first | done | rfl | (simp only [List.length_drop, List.length_take]; rfl)) ?_; (with_reducible refine (reason_good.calls kj35 a0 t101 _ A43.out).mono ?_); rintro e w' ⟨rfl, ⟨nd, rfl⟩⟩; refine ⟨_, rfl, ?_⟩))
                                              go_ret
                                              exact ⟨by first | rfl | (simp; done) | (simp [*]; done), by repeat (first | exact Drawn0.refl _ | apply Drawn0.step)⟩

end Go.Proofs.Ytlmcjfnignbdoaa.PReasonIs
