-- Printed by drive.py, this session's program over the kit's print.py. Not trusted: Lean checks it.
import Derived.Test.YtfdfpdiemeomiaaGx0
namespace Go.Proofs.Ytfdfpdiemeomiaa.G
open Go.RowKit Go.Proofs.YtfdfpdiemeomiaaW.PrintWords Go.Proofs.YtfdfpdiemeomiaaW.PrintLast Go.Proofs.YtfdfpdiemeomiaaW.PrintMore
attribute [local go_sem] max2_int min2_int max_two min_two max_three min_three max_four min_four   -- for this text's walks alone
set_option linter.unusedVariables false
set_option linter.unusedSimpArgs false

/-! ### papermillref04_Check: function 42 -/
def papermillref04_Check.l0 : Nat → List (S36) → Int → Option (Int)
  | 0, _, _ => none
  | k + 1, x0, x3 => if x3 < (x0.length : Int) then (if 0 ≤ x3 then (if ((rd_T36 x0 x3).f0) < 0 then (some 1) else (if ((rd_T36 x0 x3).f0) > ((rd_T36 x0 x3).f1) then (some 1) else (if ((rd_T36 x0 x3).f1) > 17179869184 then (some 1) else (papermillref04_Check.l0 k x0 (wrap64 (x3 + 1)))))) else (none)) else (some 0)
def papermillref04_Check.f (k : Nat) (l0 : List (S36)) : Option (Int) := if (l0.length : Int) > 256 then (some 8) else (papermillref04_Check.l0 k l0 0)
theorem papermillref04_Check.mono_l : ∀ k, (∀ y0 y1, LeO (papermillref04_Check.l0 k y0 y1) (papermillref04_Check.l0 (k + 1) y0 y1))
  | 0 => fun _ _ r h => by simp [papermillref04_Check.l0] at h
  | k + 1 => by
    have ih0 := papermillref04_Check.mono_l k
    · intro y0 y1
      unfold papermillref04_Check.l0
      repeat' first
      | (with_reducible exact ih0 _ _)
      | (with_reducible exact LeO.refl _)
      | (with_reducible exact LeO.none _)
      | (with_reducible refine LeO.ite ?_ ?_)
      | (with_reducible refine LeO.bind ?_ (fun _ => ?_))
      | exact ih0 _ _
      | exact LeO.none _
      | refine LeO.ite ?_ ?_
      | refine LeO.bind ?_ (fun _ => ?_)
theorem papermillref04_Check.mono : ∀ a0 k, LeO (papermillref04_Check.f k a0) (papermillref04_Check.f (k + 1) a0) := by
  intro a0 k
  have ih0 := papermillref04_Check.mono_l k
  unfold papermillref04_Check.f
  repeat' first
      | (with_reducible exact ih0 _ _)
      | (with_reducible exact LeO.refl _)
      | (with_reducible exact LeO.none _)
      | (with_reducible refine LeO.ite ?_ ?_)
      | (with_reducible refine LeO.bind ?_ (fun _ => ?_))
      | exact ih0 _ _
      | exact LeO.none _
      | refine LeO.ite ?_ ?_
      | refine LeO.bind ?_ (fun _ => ?_)
set_option maxHeartbeats 8000000 in
set_option maxRecDepth 100000 in
theorem papermillref04_Check.calls (k : Nat) (A0 : Option Addr) (c0 : Nat) (l0 : List (S36)) (r : Int) (w : World) (hr0 : Kd.C k36 w A0 l0.length l0) (hc0 : l0.length ≤ c0) (h : papermillref04_Check.f k l0 = some r) :
    Calls Try.prog 42 #[.slice A0 l0.length c0] w fun e w' => e = .returned (.int .i64 r) ∧ Drawn0 w w' := by
  have HR0 := Aside0.mk hr0
  have HC0 := Aside0.mk hc0
  clear hr0 hc0
  have H : (if (l0.length : Int) > 256 then (some 8) else (papermillref04_Check.l0 k l0 0)) = some r := h
  clear h
  by_cases c2 : (l0.length : Int) > 256
  · rw [if_pos c2] at H
    have c2b0 : decide (256 < (l0.length : Int)) = true := decide_eq_true c2
    have c2b1 : decide (256 < l0.length) = true := decide_eq_true (by omega)
    clear c2
    obtain rfl := Option.some.inj H
    go_enter Try.func42, Try.ntmps42
    go_wp2
    repeat (go_quiet (fail); try go_wp2)
    go_ret
    exact ⟨by first | rfl | (simp; done) | (simp [*]; done), by repeat (first | exact Drawn0.refl _ | apply Drawn0.step)⟩
  · rw [if_neg c2] at H
    have c2b0 : decide (256 < (l0.length : Int)) = false := decide_eq_false c2
    have c2b1 : decide (256 < l0.length) = false := decide_eq_false (by omega)
    clear c2
    have H' := Aside0.mk H
    clear H
    go_enter Try.func42, Try.ntmps42
    go_wp2
    repeat (go_quiet (fail); try go_wp2)
    go_loopg [3] k (fun kq v3 w' => ∃ (x3_1 : Int), v3 = .int .i64 x3_1 ∧ Aside0 (papermillref04_Check.l0 kq l0 x3_1 = some r) ∧ Aside0 (kq ≤ k) ∧ Drawn0 w w')
    case atStart => exact ⟨(0), (by first | rfl | (simp; done) | (simp [*]; done)), H', ⟨Nat.le_refl _⟩, by repeat (first | exact Drawn0.refl _ | apply Drawn0.step)⟩
    case round =>
      clear H'
      try clear c2
      try clear c2b0
      try clear c2b1
      try clear p2
      obtain ⟨x3_1, rfl, HA, HK1, ⟨m1, rfl⟩⟩ := hrel
      cases gk with
      | zero => exact absurd HA.out (by simp [papermillref04_Check.l0])
      | succ k1 =>
        have H := HA.out
        clear HA
        simp only [papermillref04_Check.l0] at H
        by_cases c3 : x3_1 < (l0.length : Int)
        · rw [if_pos c3] at H
          have c3b0 : decide (x3_1 < (l0.length : Int)) = true := decide_eq_true c3
          clear c3
          by_cases c4 : 0 ≤ x3_1
          · rw [if_pos c4] at H
            have c4b0 : decide (0 ≤ x3_1) = true := decide_eq_true c4
            clear c4
            by_cases c5 : ((rd_T36 l0 x3_1).f0) < 0
            · rw [if_pos c5] at H
              have c5b0 : decide (((rd_T36 l0 x3_1).f0) < 0) = true := decide_eq_true c5
              clear c5
              obtain rfl := Option.some.inj H
              have p43001 : 0 ≤ (x3_1 : Int) := of_decide_eq_true (by first | (with_reducible assumption) | assumption)
              have q43001 : x3_1 < (l0.length : Int) := of_decide_eq_true (by first | (with_reducible assumption) | assumption)
              obtain ⟨ad43001, e43001, hx43001_0, hx43001_1⟩ := at_T36 HR0.out x3_1 p43001 q43001
              cases e43001
              replace p43001 := eq_true p43001
              replace q43001 := eq_true q43001
              go_wp2
              repeat (go_quiet (fail); try go_wp2)
              go_ret
              exact ⟨by first | rfl | (simp; done) | (simp [*]; done), by repeat (first | exact Drawn0.refl _ | apply Drawn0.step)⟩
            · rw [if_neg c5] at H
              have c5b0 : decide (((rd_T36 l0 x3_1).f0) < 0) = false := decide_eq_false c5
              clear c5
              by_cases c6 : ((rd_T36 l0 x3_1).f0) > ((rd_T36 l0 x3_1).f1)
              · rw [if_pos c6] at H
                have c6b0 : decide (((rd_T36 l0 x3_1).f1) < ((rd_T36 l0 x3_1).f0)) = true := decide_eq_true c6
                clear c6
                obtain rfl := Option.some.inj H
                have p43001 : 0 ≤ (x3_1 : Int) := of_decide_eq_true (by first | (with_reducible assumption) | assumption)
                have q43001 : x3_1 < (l0.length : Int) := of_decide_eq_true (by first | (with_reducible assumption) | assumption)
                obtain ⟨ad43001, e43001, hx43001_0, hx43001_1⟩ := at_T36 HR0.out x3_1 p43001 q43001
                cases e43001
                replace p43001 := eq_true p43001
                replace q43001 := eq_true q43001
                have p43002 : 0 ≤ (x3_1 : Int) := of_decide_eq_true (by first | (with_reducible assumption) | assumption)
                have q43002 : x3_1 < (l0.length : Int) := of_decide_eq_true (by first | (with_reducible assumption) | assumption)
                obtain ⟨ad43002, e43002, hx43002_0, hx43002_1⟩ := at_T36 HR0.out x3_1 p43002 q43002
                obtain rfl : ad43001 = ad43002 := (by injection e43002)
                replace p43002 := eq_true p43002
                replace q43002 := eq_true q43002
                have p43003 : 0 ≤ (x3_1 : Int) := of_decide_eq_true (by first | (with_reducible assumption) | assumption)
                have q43003 : x3_1 < (l0.length : Int) := of_decide_eq_true (by first | (with_reducible assumption) | assumption)
                obtain ⟨ad43003, e43003, hx43003_0, hx43003_1⟩ := at_T36 HR0.out x3_1 p43003 q43003
                obtain rfl : ad43001 = ad43003 := (by injection e43003)
                replace p43003 := eq_true p43003
                replace q43003 := eq_true q43003
                go_wp2
                repeat (go_quiet (fail); try go_wp2)
                go_ret
                exact ⟨by first | rfl | (simp; done) | (simp [*]; done), by repeat (first | exact Drawn0.refl _ | apply Drawn0.step)⟩
              · rw [if_neg c6] at H
                have c6b0 : decide (((rd_T36 l0 x3_1).f1) < ((rd_T36 l0 x3_1).f0)) = false := decide_eq_false c6
                clear c6
                by_cases c7 : ((rd_T36 l0 x3_1).f1) > 17179869184
                · rw [if_pos c7] at H
                  have c7b0 : decide (17179869184 < ((rd_T36 l0 x3_1).f1)) = true := decide_eq_true c7
                  clear c7
                  obtain rfl := Option.some.inj H
                  have p43001 : 0 ≤ (x3_1 : Int) := of_decide_eq_true (by first | (with_reducible assumption) | assumption)
                  have q43001 : x3_1 < (l0.length : Int) := of_decide_eq_true (by first | (with_reducible assumption) | assumption)
                  obtain ⟨ad43001, e43001, hx43001_0, hx43001_1⟩ := at_T36 HR0.out x3_1 p43001 q43001
                  cases e43001
                  replace p43001 := eq_true p43001
                  replace q43001 := eq_true q43001
                  have p43002 : 0 ≤ (x3_1 : Int) := of_decide_eq_true (by first | (with_reducible assumption) | assumption)
                  have q43002 : x3_1 < (l0.length : Int) := of_decide_eq_true (by first | (with_reducible assumption) | assumption)
                  obtain ⟨ad43002, e43002, hx43002_0, hx43002_1⟩ := at_T36 HR0.out x3_1 p43002 q43002
                  obtain rfl : ad43001 = ad43002 := (by injection e43002)
                  replace p43002 := eq_true p43002
                  replace q43002 := eq_true q43002
                  have p43003 : 0 ≤ (x3_1 : Int) := of_decide_eq_true (by first | (with_reducible assumption) | assumption)
                  have q43003 : x3_1 < (l0.length : Int) := of_decide_eq_true (by first | (with_reducible assumption) | assumption)
                  obtain ⟨ad43003, e43003, hx43003_0, hx43003_1⟩ := at_T36 HR0.out x3_1 p43003 q43003
                  obtain rfl : ad43001 = ad43003 := (by injection e43003)
                  replace p43003 := eq_true p43003
                  replace q43003 := eq_true q43003
                  have p43004 : 0 ≤ (x3_1 : Int) := of_decide_eq_true (by first | (with_reducible assumption) | assumption)
                  have q43004 : x3_1 < (l0.length : Int) := of_decide_eq_true (by first | (with_reducible assumption) | assumption)
                  obtain ⟨ad43004, e43004, hx43004_0, hx43004_1⟩ := at_T36 HR0.out x3_1 p43004 q43004
                  obtain rfl : ad43001 = ad43004 := (by injection e43004)
                  replace p43004 := eq_true p43004
                  replace q43004 := eq_true q43004
                  go_wp2
                  repeat (go_quiet (fail); try go_wp2)
                  go_ret
                  exact ⟨by first | rfl | (simp; done) | (simp [*]; done), by repeat (first | exact Drawn0.refl _ | apply Drawn0.step)⟩
                · rw [if_neg c7] at H
                  have c7b0 : decide (17179869184 < ((rd_T36 l0 x3_1).f1)) = false := decide_eq_false c7
                  clear c7
                  have H' := Aside0.mk H
                  clear H
                  have p43001 : 0 ≤ (x3_1 : Int) := of_decide_eq_true (by first | (with_reducible assumption) | assumption)
                  have q43001 : x3_1 < (l0.length : Int) := of_decide_eq_true (by first | (with_reducible assumption) | assumption)
                  obtain ⟨ad43001, e43001, hx43001_0, hx43001_1⟩ := at_T36 HR0.out x3_1 p43001 q43001
                  cases e43001
                  replace p43001 := eq_true p43001
                  replace q43001 := eq_true q43001
                  have p43002 : 0 ≤ (x3_1 : Int) := of_decide_eq_true (by first | (with_reducible assumption) | assumption)
                  have q43002 : x3_1 < (l0.length : Int) := of_decide_eq_true (by first | (with_reducible assumption) | assumption)
                  obtain ⟨ad43002, e43002, hx43002_0, hx43002_1⟩ := at_T36 HR0.out x3_1 p43002 q43002
                  obtain rfl : ad43001 = ad43002 := (by injection e43002)
                  replace p43002 := eq_true p43002
                  replace q43002 := eq_true q43002
                  have p43003 : 0 ≤ (x3_1 : Int) := of_decide_eq_true (by first | (with_reducible assumption) | assumption)
                  have q43003 : x3_1 < (l0.length : Int) := of_decide_eq_true (by first | (with_reducible assumption) | assumption)
                  obtain ⟨ad43003, e43003, hx43003_0, hx43003_1⟩ := at_T36 HR0.out x3_1 p43003 q43003
                  obtain rfl : ad43001 = ad43003 := (by injection e43003)
                  replace p43003 := eq_true p43003
                  replace q43003 := eq_true q43003
                  have p43004 : 0 ≤ (x3_1 : Int) := of_decide_eq_true (by first | (with_reducible assumption) | assumption)
                  have q43004 : x3_1 < (l0.length : Int) := of_decide_eq_true (by first | (with_reducible assumption) | assumption)
                  obtain ⟨ad43004, e43004, hx43004_0, hx43004_1⟩ := at_T36 HR0.out x3_1 p43004 q43004
                  obtain rfl : ad43001 = ad43004 := (by injection e43004)
                  replace p43004 := eq_true p43004
                  replace q43004 := eq_true q43004
                  go_wp2
                  repeat (go_quiet (fail); try go_wp2)
                  go_roundg k1
                  case measure => have := HK1.out; omega
                  case rel => exact ⟨(wrap64 (x3_1 + 1)), (by first | rfl | (simp; done) | (simp [*]; done)), H', ⟨by have := HK1.out; omega⟩, by repeat (first | exact Drawn0.refl _ | apply Drawn0.step)⟩
          · rw [if_neg c4] at H
            exact absurd H (by simp)
        · rw [if_neg c3] at H
          have c3b0 : decide (x3_1 < (l0.length : Int)) = false := decide_eq_false c3
          clear c3
          obtain rfl := Option.some.inj H
          go_wp2
          repeat (go_quiet (fail); try go_wp2)
          go_ret
          exact ⟨by first | rfl | (simp; done) | (simp [*]; done), by repeat (first | exact Drawn0.refl _ | apply Drawn0.step)⟩

end Go.Proofs.Ytfdfpdiemeomiaa.G
