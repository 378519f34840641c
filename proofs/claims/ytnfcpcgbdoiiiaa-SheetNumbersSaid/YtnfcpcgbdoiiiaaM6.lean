import Derived.Test.YtnfcpcgbdoiiiaaM1
import Derived.Test.YtnfcpcgbdoiiiaaM5
namespace Go.Proofs.Ytnfcpcgbdoiiiaa.G
open Go.RowKit Go.Proofs.YtnfcpcgbdoiiiaaW.PrintWords Go.Proofs.YtnfcpcgbdoiiiaaW.PrintLast Go.Proofs.YtnfcpcgbdoiiiaaW.PrintMore
attribute [local go_sem] max2_int min2_int max_two min_two max_three min_three max_four min_four   -- for this text's walks alone
set_option linter.unusedVariables false
set_option linter.unusedSimpArgs false

/-! ### papermillref52_sized: function 35 -/
def papermillref52_sized.f (a0 : Int) (a1 : Int) : Option (Bool) := if a0 ≥ 0 then (if a0 ≤ 17179869184 then (if a1 ≥ 1 then (some (decide (a1 ≤ 17179869184))) else (some false)) else (some false)) else (some false)
set_option maxHeartbeats 8000000 in
set_option maxRecDepth 100000 in
theorem papermillref52_sized.calls (a0 : Int) (a1 : Int) (r : Bool) (w : World) (h : papermillref52_sized.f a0 a1 = some r) :
    Calls Try.prog 35 #[.int .i64 a0, .int .i64 a1] w fun e w' => e = .returned (.bool r) ∧ Drawn0 w w' := by
  have H : (if a0 ≥ 0 then (if a0 ≤ 17179869184 then (if a1 ≥ 1 then (some (decide (a1 ≤ 17179869184))) else (some false)) else (some false)) else (some false)) = some r := h
  clear h
  by_cases c3 : a0 ≥ 0
  · rw [if_pos c3] at H
    have c3b0 : decide (0 ≤ a0) = true := decide_eq_true c3
    clear c3
    by_cases c4 : a0 ≤ 17179869184
    · rw [if_pos c4] at H
      have c4b0 : decide (a0 ≤ 17179869184) = true := decide_eq_true c4
      clear c4
      by_cases c5 : a1 ≥ 1
      · rw [if_pos c5] at H
        have c5b0 : decide (1 ≤ a1) = true := decide_eq_true c5
        clear c5
        obtain rfl := Option.some.inj H
        go_enter Try.func35, Try.ntmps35
        go_wp2
        go_ret
        exact ⟨by first | rfl | (simp; done) | (simp [*]; done), by repeat (first | exact Drawn0.refl _ | apply Drawn0.step)⟩
      · rw [if_neg c5] at H
        have c5b0 : decide (1 ≤ a1) = false := decide_eq_false c5
        clear c5
        obtain rfl := Option.some.inj H
        go_enter Try.func35, Try.ntmps35
        go_wp2
        go_ret
        exact ⟨by first | rfl | (simp; done) | (simp [*]; done), by repeat (first | exact Drawn0.refl _ | apply Drawn0.step)⟩
    · rw [if_neg c4] at H
      have c4b0 : decide (a0 ≤ 17179869184) = false := decide_eq_false c4
      clear c4
      obtain rfl := Option.some.inj H
      go_enter Try.func35, Try.ntmps35
      go_wp2
      go_ret
      exact ⟨by first | rfl | (simp; done) | (simp [*]; done), by repeat (first | exact Drawn0.refl _ | apply Drawn0.step)⟩
  · rw [if_neg c3] at H
    have c3b0 : decide (0 ≤ a0) = false := decide_eq_false c3
    clear c3
    obtain rfl := Option.some.inj H
    go_enter Try.func35, Try.ntmps35
    go_wp2
    go_ret
    exact ⟨by first | rfl | (simp; done) | (simp [*]; done), by repeat (first | exact Drawn0.refl _ | apply Drawn0.step)⟩

end Go.Proofs.Ytnfcpcgbdoiiiaa.G

namespace Go.Proofs.Ytnfcpcgbdoiiiaa.G
open Go.RowKit Go.Proofs.YtnfcpcgbdoiiiaaW.PrintWords Go.Proofs.YtnfcpcgbdoiiiaaW.PrintLast Go.Proofs.YtnfcpcgbdoiiiaaW.PrintMore
attribute [local go_sem] max2_int min2_int max_two min_two max_three min_three max_four min_four   -- for this text's walks alone
set_option linter.unusedVariables false
set_option linter.unusedSimpArgs false

/-! ### papermillref52_Sheet: function 17 -/
def papermillref52_Sheet.j0 : Nat → Int → Int → Int → Bool → Option (Int × Int)
 | 0, _, _, _, _ => none
 | k + 1, x0, x1, x2, x18 => if x18 = true then (some (0, 21)) else (if x1 = 0 then (none) else (if x2 < (Int.tmod x0 x1) then (some (0, 7)) else (some (wrap64 (Int.tdiv (wrap64 ((wrap64 (x0 - 1)) - x2)) x1), 0))))
def papermillref52_Sheet.f (k : Nat) (a0 : Int) (a1 : Int) (a2 : Int) : Option (Int × Int) := (papermillref52_sized.f a0 a1).bind fun t18001 => (if t18001 = true then (if a2 < 0 then (papermillref52_Sheet.j0 k a0 a1 a2 true) else (papermillref52_Sheet.j0 k a0 a1 a2 (decide (a2 ≥ a0)))) else (some (0, 1)))
theorem papermillref52_Sheet.mono_l : ∀ k, (∀ y0 y1 y2 y3, LeO (papermillref52_Sheet.j0 k y0 y1 y2 y3) (papermillref52_Sheet.j0 (k + 1) y0 y1 y2 y3))
 | 0 => fun _ _ _ _ r h => by simp [papermillref52_Sheet.j0] at h
 | k + 1 => by
  have ih0 := papermillref52_Sheet.mono_l k
  ·intro y0 y1 y2 y3
   unfold papermillref52_Sheet.j0
   repeat' first
   | (with_reducible exact ih0 _ _ _ _)
   | (with_reducible exact LeO.refl _)
   | (with_reducible exact LeO.none _)
   | (with_reducible refine LeO.ite ?_ ?_)
   | (with_reducible refine LeO.bind ?_ (fun _ => ?_))
   | exact ih0 _ _ _ _
   | exact LeO.none _
   | refine LeO.ite ?_ ?_
   | refine LeO.bind ?_ (fun _ => ?_)
theorem papermillref52_Sheet.mono : ∀ a0 a1 a2 k, LeO (papermillref52_Sheet.f k a0 a1 a2) (papermillref52_Sheet.f (k + 1) a0 a1 a2) := by
 intro a0 a1 a2 k
 have ih0 := papermillref52_Sheet.mono_l k
 unfold papermillref52_Sheet.f
 repeat' first
   | (with_reducible exact ih0 _ _ _ _)
   | (with_reducible exact LeO.refl _)
   | (with_reducible exact LeO.none _)
   | (with_reducible refine LeO.ite ?_ ?_)
   | (with_reducible refine LeO.bind ?_ (fun _ => ?_))
   | exact ih0 _ _ _ _
   | exact LeO.none _
   | refine LeO.ite ?_ ?_
   | refine LeO.bind ?_ (fun _ => ?_)
set_option maxHeartbeats 8000000 in
set_option maxRecDepth 100000 in
theorem papermillref52_Sheet.calls (k : Nat) (a0 : Int) (a1 : Int) (a2 : Int) (r1 : Int) (r2 : Int) (w : World) (h : papermillref52_Sheet.f k a0 a1 a2 = some (r1, r2)) :
  Calls Try.prog 17 #[.int .i64 a0, .int .i64 a1, .int .i64 a2] w fun e w' => e = .returned (.tuple #[.int .i64 r1, .int .i64 r2]) ∧ Drawn0 w w' := by
 have H : ((papermillref52_sized.f a0 a1).bind fun t18001 => (if t18001 = true then (if a2 < 0 then (papermillref52_Sheet.j0 k a0 a1 a2 true) else (papermillref52_Sheet.j0 k a0 a1 a2 (decide (a2 ≥ a0)))) else (some (0, 1)))) = some (r1, r2) := h
 clear h
 replace H := Option.bind_eq_some_iff.mp H
 obtain ⟨t18001, A40, H⟩ := H
 replace H : (if t18001 = true then (if a2 < 0 then (papermillref52_Sheet.j0 k a0 a1 a2 true) else (papermillref52_Sheet.j0 k a0 a1 a2 (decide (a2 ≥ a0)))) else (some (0, 1))) = some (r1, r2) := H
 have A4 := Aside0.mk A40
 clear A40
 by_cases c5 : t18001 = true
 ·subst c5
  have H1 : (if a2 < 0 then (papermillref52_Sheet.j0 k a0 a1 a2 true) else (papermillref52_Sheet.j0 k a0 a1 a2 (decide (a2 ≥ a0)))) = some (r1, r2) := by rw [if_pos rfl] at H; exact H
  clear H
  have H := H1
  clear H1
  have HC6 := Aside0.mk H
  clear H
  go_enter Try.func17, Try.ntmps17
  go_upto_region 3 with (first | ((with_reducible refine gate_callee (f := 35) rfl ?_); refine goesL_ (some 10) rfl rfl Try.func35 (by kernel_rfl) rfl #[.int .i64 a0, .int .i64 a1] rfl (by (try simp only [List.map_toArray, List.map_cons, List.map_nil]); first | done | rfl | (simp only [List.length_drop, List.length_take]; rfl)) ?_; (with_reducible refine (papermillref52_sized.calls a0 a1 true _ A4.out).mono ?_); rintro e w' ⟨rfl, ⟨nd, rfl⟩⟩; refine ⟨_, rfl, ?_⟩))
  (try simp only [Act.put, List.setIfInBounds_toArray, List.set_cons_zero, List.set_cons_succ])
  go_cut [18] (fun v18 wc => ∃ (kq : Nat) (x18_5 : Bool), v18 = .bool x18_5 ∧ Aside0 (papermillref52_Sheet.j0 kq a0 a1 a2 x18_5 = some (r1, r2)) ∧ Aside0 (kq ≤ k) ∧ Drawn0 w wc)
  case first =>
   have H := HC6.out
   clear HC6
   by_cases c7 : a2 < 0
   ·rw [if_pos c7] at H
    have c7b0 : decide (a2 < 0) = true := decide_eq_true c7
    clear c7
    (first | rw [c7b0] | (simp only [i64_w, i32_w]; rw [c7b0]) | skip)
    have H' := Aside0.mk H
    clear H
    go_wp2
    go_meet
    case rel => exact ⟨_, (true), (by first | rfl | (simp; done) | (simp [*]; done)), H', ⟨by first | omega | exact Nat.le_refl _⟩, by repeat (first | exact Drawn0.refl _ | apply Drawn0.step)⟩
   ·rw [if_neg c7] at H
    have c7b0 : decide (a2 < 0) = false := decide_eq_false c7
    clear c7
    (first | rw [c7b0] | (simp only [i64_w, i32_w]; rw [c7b0]) | skip)
    have H' := Aside0.mk H
    clear H
    go_wp2
    go_meet
    case rel => exact ⟨_, (decide (a2 ≥ a0)), (by first | rfl | (simp; done) | (simp [*]; done)), H', ⟨by first | omega | exact Nat.le_refl _⟩, by repeat (first | exact Drawn0.refl _ | apply Drawn0.step)⟩
  case rest =>
   clear HC6
   try clear c1
   try clear p2
   try clear c3
   try clear c5
   try clear c7
   try clear c7b0
   obtain ⟨kq, x18_5, rfl, HA, HJ5, ⟨mc5, rfl⟩⟩ := hcut
   cases kq with
   | zero => exact absurd HA.out (by simp [papermillref52_Sheet.j0])
   | succ kj5 =>
    have H := HA.out
    clear HA
    simp only [papermillref52_Sheet.j0] at H
    by_cases c8 : x18_5 = true
    ·subst c8
     have H1 : (some (0, 21)) = some (r1, r2) := by rw [if_pos rfl] at H; exact H
     clear H
     have H := H1
     clear H1
     simp only [Option.some.injEq, Prod.mk.injEq] at H
     obtain ⟨rfl, rfl⟩ := H
     go_wp2
     go_ret2
     exact ⟨by first | rfl | (simp; done) | (simp [*]; done), by repeat (first | exact Drawn0.refl _ | apply Drawn0.step)⟩
    ·replace c8 := Bool.eq_false_iff.mpr c8
     subst c8
     have H1 : (if a1 = 0 then (none) else (if a2 < (Int.tmod a0 a1) then (some (0, 7)) else (some (wrap64 (Int.tdiv (wrap64 ((wrap64 (a0 - 1)) - a2)) a1), 0)))) = some (r1, r2) := by rw [if_neg (show ¬ (false = true) by decide)] at H; exact H
     clear H
     have H := H1
     clear H1
     by_cases c9 : a1 = 0
     ·rw [if_pos c9] at H
      exact absurd H (by simp)
     ·rw [if_neg c9] at H
      have c9b0 : (a1 == 0) = false := beq_eq_false_iff_ne.mpr c9
      have c9b1 : (a1 != 0) = true := bne_iff_ne.mpr c9
      by_cases c10 : a2 < (Int.tmod a0 a1)
      ·rw [if_pos c10] at H
       have c10b0 : decide (a2 < (Int.tmod a0 a1)) = true := decide_eq_true c10
       clear c10
       simp only [Option.some.injEq, Prod.mk.injEq] at H
       obtain ⟨rfl, rfl⟩ := H
       go_wp2
       go_ret2
       exact ⟨by first | rfl | (simp; done) | (simp [*]; done), by repeat (first | exact Drawn0.refl _ | apply Drawn0.step)⟩
      ·rw [if_neg c10] at H
       have c10b0 : decide (a2 < (Int.tmod a0 a1)) = false := decide_eq_false c10
       clear c10
       simp only [Option.some.injEq, Prod.mk.injEq] at H
       obtain ⟨rfl, rfl⟩ := H
       go_wp2
       go_ret2
       exact ⟨by first | rfl | (simp; done) | (simp [*]; done), by repeat (first | exact Drawn0.refl _ | apply Drawn0.step)⟩
 ·replace c5 := Bool.eq_false_iff.mpr c5
  subst c5
  have H1 : (some (0, 1)) = some (r1, r2) := by rw [if_neg (show ¬ (false = true) by decide)] at H; exact H
  clear H
  have H := H1
  clear H1
  simp only [Option.some.injEq, Prod.mk.injEq] at H
  obtain ⟨rfl, rfl⟩ := H
  go_enter Try.func17, Try.ntmps17
  go_wp2_with (first | ((with_reducible refine gate_callee (f := 35) rfl ?_); refine goesL_ (some 10) rfl rfl Try.func35 (by kernel_rfl) rfl #[.int .i64 a0, .int .i64 a1] rfl (by (try simp only [List.map_toArray, List.map_cons, List.map_nil]); first | done | rfl | (simp only [List.length_drop, List.length_take]; rfl)) ?_; (with_reducible refine (papermillref52_sized.calls a0 a1 false _ A4.out).mono ?_); rintro e w' ⟨rfl, ⟨nd, rfl⟩⟩; refine ⟨_, rfl, ?_⟩))
  go_ret2
  exact ⟨by first | rfl | (simp; done) | (simp [*]; done), by repeat (first | exact Drawn0.refl _ | apply Drawn0.step)⟩

end Go.Proofs.Ytnfcpcgbdoiiiaa.G

namespace Go.Proofs.Ytnfcpcgbdoiiiaa.G
open Go.RowKit Go.Proofs.YtnfcpcgbdoiiiaaW.PrintWords Go.Proofs.YtnfcpcgbdoiiiaaW.PrintLast Go.Proofs.YtnfcpcgbdoiiiaaW.PrintMore
attribute [local go_sem] max2_int min2_int max_two min_two max_three min_three max_four min_four   -- for this text's walks alone
set_option linter.unusedVariables false
set_option linter.unusedSimpArgs false

/-! ### papermillref52_Place: function 19 -/
def papermillref52_Place.j0 : Nat → Int → Int → Int → Int → Bool → Option (Int × Int)
 | 0, _, _, _, _, _ => none
 | k + 1, x0, x1, x2, x3, x22 => if x22 = true then (some (0, 7)) else (if x3 < 0 then (some (0, 21)) else (if x3 ≥ x1 then (some (0, 21)) else (some (wrap64 ((wrap64 ((wrap64 (x0 - 1)) - (wrap64 (x2 * x1)))) - x3), 0))))
def papermillref52_Place.f (k : Nat) (a0 : Int) (a1 : Int) (a2 : Int) (a3 : Int) : Option (Int × Int) := (papermillref52_sized.f a0 a1).bind fun t20001 => (if t20001 = true then (if a2 < 0 then (papermillref52_Place.j0 k a0 a1 a2 a3 true) else (if a1 = 0 then (none) else (papermillref52_Place.j0 k a0 a1 a2 a3 (decide (a2 ≥ (wrap64 (Int.tdiv a0 a1))))))) else (some (0, 1)))
theorem papermillref52_Place.mono_l : ∀ k, (∀ y0 y1 y2 y3 y4, LeO (papermillref52_Place.j0 k y0 y1 y2 y3 y4) (papermillref52_Place.j0 (k + 1) y0 y1 y2 y3 y4))
 | 0 => fun _ _ _ _ _ r h => by simp [papermillref52_Place.j0] at h
 | k + 1 => by
  have ih0 := papermillref52_Place.mono_l k
  ·intro y0 y1 y2 y3 y4
   unfold papermillref52_Place.j0
   repeat' first
   | (with_reducible exact ih0 _ _ _ _ _)
   | (with_reducible exact LeO.refl _)
   | (with_reducible exact LeO.none _)
   | (with_reducible refine LeO.ite ?_ ?_)
   | (with_reducible refine LeO.bind ?_ (fun _ => ?_))
   | exact ih0 _ _ _ _ _
   | exact LeO.none _
   | refine LeO.ite ?_ ?_
   | refine LeO.bind ?_ (fun _ => ?_)
theorem papermillref52_Place.mono : ∀ a0 a1 a2 a3 k, LeO (papermillref52_Place.f k a0 a1 a2 a3) (papermillref52_Place.f (k + 1) a0 a1 a2 a3) := by
 intro a0 a1 a2 a3 k
 have ih0 := papermillref52_Place.mono_l k
 unfold papermillref52_Place.f
 repeat' first
   | (with_reducible exact ih0 _ _ _ _ _)
   | (with_reducible exact LeO.refl _)
   | (with_reducible exact LeO.none _)
   | (with_reducible refine LeO.ite ?_ ?_)
   | (with_reducible refine LeO.bind ?_ (fun _ => ?_))
   | exact ih0 _ _ _ _ _
   | exact LeO.none _
   | refine LeO.ite ?_ ?_
   | refine LeO.bind ?_ (fun _ => ?_)
set_option maxHeartbeats 8000000 in
set_option maxRecDepth 100000 in
theorem papermillref52_Place.calls (k : Nat) (a0 : Int) (a1 : Int) (a2 : Int) (a3 : Int) (r1 : Int) (r2 : Int) (w : World) (h : papermillref52_Place.f k a0 a1 a2 a3 = some (r1, r2)) :
  Calls Try.prog 19 #[.int .i64 a0, .int .i64 a1, .int .i64 a2, .int .i64 a3] w fun e w' => e = .returned (.tuple #[.int .i64 r1, .int .i64 r2]) ∧ Drawn0 w w' := by
 have H : ((papermillref52_sized.f a0 a1).bind fun t20001 => (if t20001 = true then (if a2 < 0 then (papermillref52_Place.j0 k a0 a1 a2 a3 true) else (if a1 = 0 then (none) else (papermillref52_Place.j0 k a0 a1 a2 a3 (decide (a2 ≥ (wrap64 (Int.tdiv a0 a1))))))) else (some (0, 1)))) = some (r1, r2) := h
 clear h
 replace H := Option.bind_eq_some_iff.mp H
 obtain ⟨t20001, A50, H⟩ := H
 replace H : (if t20001 = true then (if a2 < 0 then (papermillref52_Place.j0 k a0 a1 a2 a3 true) else (if a1 = 0 then (none) else (papermillref52_Place.j0 k a0 a1 a2 a3 (decide (a2 ≥ (wrap64 (Int.tdiv a0 a1))))))) else (some (0, 1))) = some (r1, r2) := H
 have A5 := Aside0.mk A50
 clear A50
 by_cases c6 : t20001 = true
 ·subst c6
  have H1 : (if a2 < 0 then (papermillref52_Place.j0 k a0 a1 a2 a3 true) else (if a1 = 0 then (none) else (papermillref52_Place.j0 k a0 a1 a2 a3 (decide (a2 ≥ (wrap64 (Int.tdiv a0 a1))))))) = some (r1, r2) := by rw [if_pos rfl] at H; exact H
  clear H
  have H := H1
  clear H1
  have HC7 := Aside0.mk H
  clear H
  go_enter Try.func19, Try.ntmps19
  go_upto_region 3 with (first | ((with_reducible refine gate_callee (f := 35) rfl ?_); refine goesL_ (some 12) rfl rfl Try.func35 (by kernel_rfl) rfl #[.int .i64 a0, .int .i64 a1] rfl (by (try simp only [List.map_toArray, List.map_cons, List.map_nil]); first | done | rfl | (simp only [List.length_drop, List.length_take]; rfl)) ?_; (with_reducible refine (papermillref52_sized.calls a0 a1 true _ A5.out).mono ?_); rintro e w' ⟨rfl, ⟨nd, rfl⟩⟩; refine ⟨_, rfl, ?_⟩))
  (try simp only [Act.put, List.setIfInBounds_toArray, List.set_cons_zero, List.set_cons_succ])
  go_cut [22] (fun v22 wc => ∃ (kq : Nat) (x22_6 : Bool), v22 = .bool x22_6 ∧ Aside0 (papermillref52_Place.j0 kq a0 a1 a2 a3 x22_6 = some (r1, r2)) ∧ Aside0 (kq ≤ k) ∧ Drawn0 w wc)
  case first =>
   have H := HC7.out
   clear HC7
   by_cases c8 : a2 < 0
   ·rw [if_pos c8] at H
    have c8b0 : decide (a2 < 0) = true := decide_eq_true c8
    clear c8
    (first | rw [c8b0] | (simp only [i64_w, i32_w]; rw [c8b0]) | skip)
    have H' := Aside0.mk H
    clear H
    go_wp2
    go_meet
    case rel => exact ⟨_, (true), (by first | rfl | (simp; done) | (simp [*]; done)), H', ⟨by first | omega | exact Nat.le_refl _⟩, by repeat (first | exact Drawn0.refl _ | apply Drawn0.step)⟩
   ·rw [if_neg c8] at H
    have c8b0 : decide (a2 < 0) = false := decide_eq_false c8
    clear c8
    (first | rw [c8b0] | (simp only [i64_w, i32_w]; rw [c8b0]) | skip)
    by_cases c9 : a1 = 0
    ·rw [if_pos c9] at H
     exact absurd H (by simp)
    ·rw [if_neg c9] at H
     have c9b0 : (a1 == 0) = false := beq_eq_false_iff_ne.mpr c9
     have c9b1 : (a1 != 0) = true := bne_iff_ne.mpr c9
     have H' := Aside0.mk H
     clear H
     go_wp2
     go_meet
     case rel => exact ⟨_, (decide (a2 ≥ (wrap64 (Int.tdiv a0 a1)))), (by first | rfl | (simp; done) | (simp [*]; done)), H', ⟨by first | omega | exact Nat.le_refl _⟩, by repeat (first | exact Drawn0.refl _ | apply Drawn0.step)⟩
  case rest =>
   clear HC7
   try clear c1
   try clear p2
   try clear c3
   try clear c6
   try clear p6
   try clear c8
   try clear c8b0
   try clear c9
   try clear c9b0
   try clear c9b1
   obtain ⟨kq, x22_6, rfl, HA, HJ6, ⟨mc6, rfl⟩⟩ := hcut
   cases kq with
   | zero => exact absurd HA.out (by simp [papermillref52_Place.j0])
   | succ kj6 =>
    have H := HA.out
    clear HA
    simp only [papermillref52_Place.j0] at H
    by_cases c10 : x22_6 = true
    ·subst c10
     have H1 : (some (0, 7)) = some (r1, r2) := by rw [if_pos rfl] at H; exact H
     clear H
     have H := H1
     clear H1
     simp only [Option.some.injEq, Prod.mk.injEq] at H
     obtain ⟨rfl, rfl⟩ := H
     go_wp2
     go_ret2
     exact ⟨by first | rfl | (simp; done) | (simp [*]; done), by repeat (first | exact Drawn0.refl _ | apply Drawn0.step)⟩
    ·replace c10 := Bool.eq_false_iff.mpr c10
     subst c10
     have H1 : (if a3 < 0 then (some (0, 21)) else (if a3 ≥ a1 then (some (0, 21)) else (some (wrap64 ((wrap64 ((wrap64 (a0 - 1)) - (wrap64 (a2 * a1)))) - a3), 0)))) = some (r1, r2) := by rw [if_neg (show ¬ (false = true) by decide)] at H; exact H
     clear H
     have H := H1
     clear H1
     by_cases c11 : a3 < 0
     ·rw [if_pos c11] at H
      have c11b0 : decide (a3 < 0) = true := decide_eq_true c11
      clear c11
      simp only [Option.some.injEq, Prod.mk.injEq] at H
      obtain ⟨rfl, rfl⟩ := H
      go_wp2
      go_ret2
      exact ⟨by first | rfl | (simp; done) | (simp [*]; done), by repeat (first | exact Drawn0.refl _ | apply Drawn0.step)⟩
     ·rw [if_neg c11] at H
      have c11b0 : decide (a3 < 0) = false := decide_eq_false c11
      clear c11
      by_cases c12 : a3 ≥ a1
      ·rw [if_pos c12] at H
       have c12b0 : decide (a1 ≤ a3) = true := decide_eq_true c12
       clear c12
       simp only [Option.some.injEq, Prod.mk.injEq] at H
       obtain ⟨rfl, rfl⟩ := H
       go_wp2
       go_ret2
       exact ⟨by first | rfl | (simp; done) | (simp [*]; done), by repeat (first | exact Drawn0.refl _ | apply Drawn0.step)⟩
      ·rw [if_neg c12] at H
       have c12b0 : decide (a1 ≤ a3) = false := decide_eq_false c12
       clear c12
       simp only [Option.some.injEq, Prod.mk.injEq] at H
       obtain ⟨rfl, rfl⟩ := H
       go_wp2
       go_ret2
       exact ⟨by first | rfl | (simp; done) | (simp [*]; done), by repeat (first | exact Drawn0.refl _ | apply Drawn0.step)⟩
 ·replace c6 := Bool.eq_false_iff.mpr c6
  subst c6
  have H1 : (some (0, 1)) = some (r1, r2) := by rw [if_neg (show ¬ (false = true) by decide)] at H; exact H
  clear H
  have H := H1
  clear H1
  simp only [Option.some.injEq, Prod.mk.injEq] at H
  obtain ⟨rfl, rfl⟩ := H
  go_enter Try.func19, Try.ntmps19
  go_wp2_with (first | ((with_reducible refine gate_callee (f := 35) rfl ?_); refine goesL_ (some 12) rfl rfl Try.func35 (by kernel_rfl) rfl #[.int .i64 a0, .int .i64 a1] rfl (by (try simp only [List.map_toArray, List.map_cons, List.map_nil]); first | done | rfl | (simp only [List.length_drop, List.length_take]; rfl)) ?_; (with_reducible refine (papermillref52_sized.calls a0 a1 false _ A5.out).mono ?_); rintro e w' ⟨rfl, ⟨nd, rfl⟩⟩; refine ⟨_, rfl, ?_⟩))
  go_ret2
  exact ⟨by first | rfl | (simp; done) | (simp [*]; done), by repeat (first | exact Drawn0.refl _ | apply Drawn0.step)⟩

end Go.Proofs.Ytnfcpcgbdoiiiaa.G

namespace Go.Proofs.Ytnfcpcgbdoiiiaa.G
open Go.RowKit Go.Proofs.YtnfcpcgbdoiiiaaW.PrintWords Go.Proofs.YtnfcpcgbdoiiiaaW.PrintLast Go.Proofs.YtnfcpcgbdoiiiaaW.PrintMore
set_option linter.unusedVariables false
set_option linter.unusedSimpArgs false
theorem rright_f (a b : Int) : papermillref52_sized.f a b = some (rightB a b) := by
  unfold papermillref52_sized.f rightB
  split
  · split
    · split
      · congr 1; rw [decide_eq_decide]; omega
      · congr 1; rw [eq_comm, decide_eq_false_iff_not]; omega
    · congr 1; rw [eq_comm, decide_eq_false_iff_not]; omega
  · congr 1; rw [eq_comm, decide_eq_false_iff_not]; omega
theorem rsheet_j (n z x : Int) (hr : rightB n z = true) (c : Bool) (hc : c = decide (x < 0 ∨ x ≥ n)) : Ends (fun k => papermillref52_Sheet.j0 k n z x c) (sheetOf n z x) := by
  obtain ⟨h0, h1, h2, h3⟩ := (rightB_iff n z).1 hr
  refine Ends.succ ?_
  simp only [papermillref52_Sheet.j0]
  unfold sheetOf
  rw [if_pos hr]
  by_cases h : x < 0 ∨ x ≥ n
  · rw [if_pos h]
    exact Ends.pos (by rw [hc]; simpa using h) (Ends.ret _)
  · rw [if_neg h]
    refine Ends.neg (by rw [hc]; simpa using h) (Ends.neg (by omega) ?_)
    rw [Int.tmod_eq_emod_of_nonneg h0]
    by_cases hm : x < n % z
    · exact (Ends.pos hm (Ends.ret _)).congr (by rw [if_pos hm])
    · refine Ends.neg hm ((Ends.ret _).congr ?_)
      rw [if_neg hm]
      have e1 : wrap64 (n - 1) = n - 1 := by unfold wrap64; omega
      have e2 : wrap64 (n - 1 - x) = n - 1 - x := by unfold wrap64; omega
      have := div_le_self' (n - 1 - x) z (by omega) h2
      rw [e1, e2, Int.tdiv_eq_ediv_of_nonneg (by omega)]
      generalize (n - 1 - x) / z = q at *
      have e3 : wrap64 q = q := by unfold wrap64; omega
      rw [e3]
theorem rsheet_ends (n z x : Int) : Ends (fun k => papermillref52_Sheet.f k n z x) (sheetOf n z x) := by
  unfold papermillref52_Sheet.f
  simp only [rright_f, Option.bind_some]
  by_cases hr : rightB n z = true
  · refine Ends.pos hr ?_
    by_cases hx : x < 0
    · exact Ends.pos hx (rsheet_j n z x hr true (by simp [hx]))
    · exact Ends.neg hx (rsheet_j n z x hr _ (by simp [hx]))
  · refine Ends.neg hr ((Ends.ret _).congr ?_)
    unfold sheetOf
    rw [if_neg hr]
theorem rplace_j (n z k y : Int) (hr : rightB n z = true) (c : Bool) (hc : c = decide (k < 0 ∨ k ≥ n / z)) : Ends (fun q => papermillref52_Place.j0 q n z k y c) (placeOf n z k y) := by
  obtain ⟨h0, h1, h2, h3⟩ := (rightB_iff n z).1 hr
  refine Ends.succ ?_
  simp only [papermillref52_Place.j0]
  unfold placeOf
  rw [if_pos hr]
  by_cases h : k < 0 ∨ k ≥ n / z
  · rw [if_pos h]
    exact Ends.pos (by rw [hc]; simpa using h) (Ends.ret _)
  · rw [if_neg h]
    refine Ends.neg (by rw [hc]; simpa using h) ?_
    have hm := mul_le_of_lt_div n z k h0 h2 (by omega) (by omega)
    by_cases hy : y < 0
    · exact (Ends.pos hy (Ends.ret _)).congr (by rw [if_pos (Or.inl hy)])
    · by_cases hz : y ≥ z
      · exact (Ends.neg hy (Ends.pos hz (Ends.ret _))).congr (by rw [if_pos (Or.inr hz)])
      · refine Ends.neg hy (Ends.neg hz ((Ends.ret _).congr ?_))
        rw [if_neg (show ¬ (y < 0 ∨ y ≥ z) by omega)]
        generalize k * z = q at *
        have e1 : wrap64 (n - 1) = n - 1 := by unfold wrap64; omega
        have e2 : wrap64 q = q := by unfold wrap64; omega
        have e3 : wrap64 (n - 1 - q) = n - 1 - q := by unfold wrap64; omega
        have e4 : wrap64 (n - 1 - q - y) = n - 1 - q - y := by unfold wrap64; omega
        rw [e1, e2, e3, e4]
theorem rplace_ends (n z k y : Int) : Ends (fun q => papermillref52_Place.f q n z k y) (placeOf n z k y) := by
  unfold papermillref52_Place.f
  simp only [rright_f, Option.bind_some]
  by_cases hr : rightB n z = true
  · obtain ⟨h0, h1, h2, h3⟩ := (rightB_iff n z).1 hr
    refine Ends.pos hr ?_
    by_cases hx : k < 0
    · exact Ends.pos hx (rplace_j n z k y hr true (by simp [hx]))
    · refine Ends.neg hx (Ends.neg (by omega) ?_)
      have := div_le_self' n z h0 h2
      have e : wrap64 (Int.tdiv n z) = n / z := by
        rw [Int.tdiv_eq_ediv_of_nonneg h0]
        generalize n / z = q at *
        unfold wrap64; omega
      rw [e]
      exact rplace_j n z k y hr _ (by simp [hx])
  · refine Ends.neg hr ((Ends.ret _).congr ?_)
    unfold placeOf
    rw [if_neg hr]
end Go.Proofs.Ytnfcpcgbdoiiiaa.G
