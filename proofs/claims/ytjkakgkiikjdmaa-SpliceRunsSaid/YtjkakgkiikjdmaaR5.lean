import Derived.Test.YtjkakgkiikjdmaaQ1
namespace Go.Proofs.Ytjkakgkiikjdmaa.G
open Go.RowKit Go.Proofs.YtjkakgkiikjdmaaW.PrintWords Go.Proofs.YtjkakgkiikjdmaaW.PrintLast Go.Proofs.YtjkakgkiikjdmaaW.PrintMore
attribute [local go_sem] max2_int min2_int max_two min_two max_three min_three max_four min_four   -- for this text's walks alone
set_option linter.unusedVariables false
set_option linter.unusedSimpArgs false

def papermillref04_Check.l0 : Nat → List (S49) → Int → Option (Int)
 | 0, _, _ => none
 | k + 1, x0, x3 => if x3 < (x0.length : Int) then (if 0 ≤ x3 then (if ((rd_T49 x0 x3).f0) < 0 then (some 1) else (if ((rd_T49 x0 x3).f0) > ((rd_T49 x0 x3).f1) then (some 1) else (if ((rd_T49 x0 x3).f1) > 17179869184 then (some 1) else (papermillref04_Check.l0 k x0 (wrap64 (x3 + 1)))))) else (none)) else (some 0)
def papermillref04_Check.f (k : Nat) (l0 : List (S49)) : Option (Int) := if (l0.length : Int) > 256 then (some 8) else (papermillref04_Check.l0 k l0 0)
theorem papermillref04_Check.mono_l : ∀ k, (∀ y0 y1, LeO (papermillref04_Check.l0 k y0 y1) (papermillref04_Check.l0 (k + 1) y0 y1))
 | 0 => fun _ _ r h => by simp [papermillref04_Check.l0] at h
 | k + 1 => by
  have ih0 := papermillref04_Check.mono_l k
  ·intro y0 y1
   unfold papermillref04_Check.l0
   repeat' first
   | (with_reducible exact ih0 _ _)
   | (with_reducible exact LeO.refl _)
   | (with_reducible exact LeO.none _)
   | (with_reducible refine LeO.ite ?_ ?_)
   | (with_reducible refine LeO.bind ?_ (fun _ => ?_))
   | exact ih0 _ _
   | exact LeO.none _
   | refine LeO.ite ?_ ?_
   | refine LeO.bind ?_ (fun _ => ?_)
theorem papermillref04_Check.mono : ∀ a0 k, LeO (papermillref04_Check.f k a0) (papermillref04_Check.f (k + 1) a0) := by
 intro a0 k
 have ih0 := papermillref04_Check.mono_l k
 unfold papermillref04_Check.f
 repeat' first
   | (with_reducible exact ih0 _ _)
   | (with_reducible exact LeO.refl _)
   | (with_reducible exact LeO.none _)
   | (with_reducible refine LeO.ite ?_ ?_)
   | (with_reducible refine LeO.bind ?_ (fun _ => ?_))
   | exact ih0 _ _
   | exact LeO.none _
   | refine LeO.ite ?_ ?_
   | refine LeO.bind ?_ (fun _ => ?_)
set_option maxHeartbeats 8000000 in
set_option maxRecDepth 100000 in
theorem papermillref04_Check.calls (k : Nat) (A0 : Option Addr) (c0 : Nat) (l0 : List (S49)) (r : Int) (w : World) (hr0 : Kd.C k49 w A0 l0.length l0) (hc0 : l0.length ≤ c0) (h : papermillref04_Check.f k l0 = some r) :
  Calls Try.prog 72 #[.slice A0 l0.length c0] w fun e w' => e = .returned (.int .i64 r) ∧ Drawn0 w w' := by
 have HR0 := Aside0.mk hr0
 have HC0 := Aside0.mk hc0
 clear hr0 hc0
 have H : (if (l0.length : Int) > 256 then (some 8) else (papermillref04_Check.l0 k l0 0)) = some r := h
 clear h
 by_cases c2 : (l0.length : Int) > 256
 ·rw [if_pos c2] at H
  have c2b0 : decide (256 < (l0.length : Int)) = true := decide_eq_true c2
  have c2b1 : decide (256 < l0.length) = true := decide_eq_true (by omega)
  clear c2
  obtain rfl := Option.some.inj H
  go_enter Try.func72, Try.ntmps72
  go_wp2
  repeat (go_quiet (fail); try go_wp2)
  go_ret
  exact ⟨by first | rfl | (simp; done) | (simp [*]; done), by repeat (first | exact Drawn0.refl _ | apply Drawn0.step)⟩
 ·rw [if_neg c2] at H
  have c2b0 : decide (256 < (l0.length : Int)) = false := decide_eq_false c2
  have c2b1 : decide (256 < l0.length) = false := decide_eq_false (by omega)
  clear c2
  have H' := Aside0.mk H
  clear H
  go_enter Try.func72, Try.ntmps72
  go_wp2
  repeat (go_quiet (fail); try go_wp2)
  go_loopg [3] k (fun kq v3 w' => ∃ (x3_1 : Int), v3 = .int .i64 x3_1 ∧ Aside0 (papermillref04_Check.l0 kq l0 x3_1 = some r) ∧ Aside0 (kq ≤ k) ∧ Drawn0 w w')
  case atStart => exact ⟨(0), (by first | rfl | (simp; done) | (simp [*]; done)), H', ⟨Nat.le_refl _⟩, by repeat (first | exact Drawn0.refl _ | apply Drawn0.step)⟩
  case round =>
   clear H'
   try clear c2
   try clear c2b0
   try clear c2b1
   try clear p2
   obtain ⟨x3_1, rfl, HA, HK1, ⟨m1, rfl⟩⟩ := hrel
   cases gk with
   | zero => exact absurd HA.out (by simp [papermillref04_Check.l0])
   | succ k1 =>
    have H := HA.out
    clear HA
    simp only [papermillref04_Check.l0] at H
    by_cases c3 : x3_1 < (l0.length : Int)
    ·rw [if_pos c3] at H
     have c3b0 : decide (x3_1 < (l0.length : Int)) = true := decide_eq_true c3
     clear c3
     by_cases c4 : 0 ≤ x3_1
     ·rw [if_pos c4] at H
      have c4b0 : decide (0 ≤ x3_1) = true := decide_eq_true c4
      clear c4
      by_cases c5 : ((rd_T49 l0 x3_1).f0) < 0
      ·rw [if_pos c5] at H
       have c5b0 : decide (((rd_T49 l0 x3_1).f0) < 0) = true := decide_eq_true c5
       clear c5
       obtain rfl := Option.some.inj H
       have p73001 : 0 ≤ (x3_1 : Int) := of_decide_eq_true (by assumption)
       have q73001 : x3_1 < (l0.length : Int) := of_decide_eq_true (by assumption)
       obtain ⟨ad73001, e73001, hx73001_0, hx73001_1⟩ := at_T49 HR0.out x3_1 p73001 q73001
       cases e73001
       replace p73001 := eq_true p73001
       replace q73001 := eq_true q73001
       go_wp2
       repeat (go_quiet (fail); try go_wp2)
       go_ret
       exact ⟨by first | rfl | (simp; done) | (simp [*]; done), by repeat (first | exact Drawn0.refl _ | apply Drawn0.step)⟩
      ·rw [if_neg c5] at H
       have c5b0 : decide (((rd_T49 l0 x3_1).f0) < 0) = false := decide_eq_false c5
       clear c5
       by_cases c6 : ((rd_T49 l0 x3_1).f0) > ((rd_T49 l0 x3_1).f1)
       ·rw [if_pos c6] at H
        have c6b0 : decide (((rd_T49 l0 x3_1).f1) < ((rd_T49 l0 x3_1).f0)) = true := decide_eq_true c6
        clear c6
        obtain rfl := Option.some.inj H
        have p73001 : 0 ≤ (x3_1 : Int) := of_decide_eq_true (by assumption)
        have q73001 : x3_1 < (l0.length : Int) := of_decide_eq_true (by assumption)
        obtain ⟨ad73001, e73001, hx73001_0, hx73001_1⟩ := at_T49 HR0.out x3_1 p73001 q73001
        cases e73001
        replace p73001 := eq_true p73001
        replace q73001 := eq_true q73001
        have p73002 : 0 ≤ (x3_1 : Int) := of_decide_eq_true (by assumption)
        have q73002 : x3_1 < (l0.length : Int) := of_decide_eq_true (by assumption)
        obtain ⟨ad73002, e73002, hx73002_0, hx73002_1⟩ := at_T49 HR0.out x3_1 p73002 q73002
        obtain rfl : ad73001 = ad73002 := (by injection e73002)
        replace p73002 := eq_true p73002
        replace q73002 := eq_true q73002
        have p73003 : 0 ≤ (x3_1 : Int) := of_decide_eq_true (by assumption)
        have q73003 : x3_1 < (l0.length : Int) := of_decide_eq_true (by assumption)
        obtain ⟨ad73003, e73003, hx73003_0, hx73003_1⟩ := at_T49 HR0.out x3_1 p73003 q73003
        obtain rfl : ad73001 = ad73003 := (by injection e73003)
        replace p73003 := eq_true p73003
        replace q73003 := eq_true q73003
        go_wp2
        repeat (go_quiet (fail); try go_wp2)
        go_ret
        exact ⟨by first | rfl | (simp; done) | (simp [*]; done), by repeat (first | exact Drawn0.refl _ | apply Drawn0.step)⟩
       ·rw [if_neg c6] at H
        have c6b0 : decide (((rd_T49 l0 x3_1).f1) < ((rd_T49 l0 x3_1).f0)) = false := decide_eq_false c6
        clear c6
        by_cases c7 : ((rd_T49 l0 x3_1).f1) > 17179869184
        ·rw [if_pos c7] at H
         have c7b0 : decide (17179869184 < ((rd_T49 l0 x3_1).f1)) = true := decide_eq_true c7
         clear c7
         obtain rfl := Option.some.inj H
         have p73001 : 0 ≤ (x3_1 : Int) := of_decide_eq_true (by assumption)
         have q73001 : x3_1 < (l0.length : Int) := of_decide_eq_true (by assumption)
         obtain ⟨ad73001, e73001, hx73001_0, hx73001_1⟩ := at_T49 HR0.out x3_1 p73001 q73001
         cases e73001
         replace p73001 := eq_true p73001
         replace q73001 := eq_true q73001
         have p73002 : 0 ≤ (x3_1 : Int) := of_decide_eq_true (by assumption)
         have q73002 : x3_1 < (l0.length : Int) := of_decide_eq_true (by assumption)
         obtain ⟨ad73002, e73002, hx73002_0, hx73002_1⟩ := at_T49 HR0.out x3_1 p73002 q73002
         obtain rfl : ad73001 = ad73002 := (by injection e73002)
         replace p73002 := eq_true p73002
         replace q73002 := eq_true q73002
         have p73003 : 0 ≤ (x3_1 : Int) := of_decide_eq_true (by assumption)
         have q73003 : x3_1 < (l0.length : Int) := of_decide_eq_true (by assumption)
         obtain ⟨ad73003, e73003, hx73003_0, hx73003_1⟩ := at_T49 HR0.out x3_1 p73003 q73003
         obtain rfl : ad73001 = ad73003 := (by injection e73003)
         replace p73003 := eq_true p73003
         replace q73003 := eq_true q73003
         have p73004 : 0 ≤ (x3_1 : Int) := of_decide_eq_true (by assumption)
         have q73004 : x3_1 < (l0.length : Int) := of_decide_eq_true (by assumption)
         obtain ⟨ad73004, e73004, hx73004_0, hx73004_1⟩ := at_T49 HR0.out x3_1 p73004 q73004
         obtain rfl : ad73001 = ad73004 := (by injection e73004)
         replace p73004 := eq_true p73004
         replace q73004 := eq_true q73004
         go_wp2
         repeat (go_quiet (fail); try go_wp2)
         go_ret
         exact ⟨by first | rfl | (simp; done) | (simp [*]; done), by repeat (first | exact Drawn0.refl _ | apply Drawn0.step)⟩
        ·rw [if_neg c7] at H
         have c7b0 : decide (17179869184 < ((rd_T49 l0 x3_1).f1)) = false := decide_eq_false c7
         clear c7
         have H' := Aside0.mk H
         clear H
         have p73001 : 0 ≤ (x3_1 : Int) := of_decide_eq_true (by assumption)
         have q73001 : x3_1 < (l0.length : Int) := of_decide_eq_true (by assumption)
         obtain ⟨ad73001, e73001, hx73001_0, hx73001_1⟩ := at_T49 HR0.out x3_1 p73001 q73001
         cases e73001
         replace p73001 := eq_true p73001
         replace q73001 := eq_true q73001
         have p73002 : 0 ≤ (x3_1 : Int) := of_decide_eq_true (by assumption)
         have q73002 : x3_1 < (l0.length : Int) := of_decide_eq_true (by assumption)
         obtain ⟨ad73002, e73002, hx73002_0, hx73002_1⟩ := at_T49 HR0.out x3_1 p73002 q73002
         obtain rfl : ad73001 = ad73002 := (by injection e73002)
         replace p73002 := eq_true p73002
         replace q73002 := eq_true q73002
         have p73003 : 0 ≤ (x3_1 : Int) := of_decide_eq_true (by assumption)
         have q73003 : x3_1 < (l0.length : Int) := of_decide_eq_true (by assumption)
         obtain ⟨ad73003, e73003, hx73003_0, hx73003_1⟩ := at_T49 HR0.out x3_1 p73003 q73003
         obtain rfl : ad73001 = ad73003 := (by injection e73003)
         replace p73003 := eq_true p73003
         replace q73003 := eq_true q73003
         have p73004 : 0 ≤ (x3_1 : Int) := of_decide_eq_true (by assumption)
         have q73004 : x3_1 < (l0.length : Int) := of_decide_eq_true (by assumption)
         obtain ⟨ad73004, e73004, hx73004_0, hx73004_1⟩ := at_T49 HR0.out x3_1 p73004 q73004
         obtain rfl : ad73001 = ad73004 := (by injection e73004)
         replace p73004 := eq_true p73004
         replace q73004 := eq_true q73004
         go_wp2
         repeat (go_quiet (fail); try go_wp2)
         go_roundg k1
         case measure => have := HK1.out; omega
         case rel => exact ⟨(wrap64 (x3_1 + 1)), (by first | rfl | (simp; done) | (simp [*]; done)), H', ⟨by have := HK1.out; omega⟩, by repeat (first | exact Drawn0.refl _ | apply Drawn0.step)⟩
     ·rw [if_neg c4] at H
      exact absurd H (by simp)
    ·rw [if_neg c3] at H
     have c3b0 : decide (x3_1 < (l0.length : Int)) = false := decide_eq_false c3
     clear c3
     obtain rfl := Option.some.inj H
     go_wp2
     repeat (go_quiet (fail); try go_wp2)
     go_ret
     exact ⟨by first | rfl | (simp; done) | (simp [*]; done), by repeat (first | exact Drawn0.refl _ | apply Drawn0.step)⟩

end Go.Proofs.Ytjkakgkiikjdmaa.G

namespace Go.Proofs.Ytjkakgkiikjdmaa.G
open Go.RowKit Go.Proofs.YtjkakgkiikjdmaaW.PrintWords Go.Proofs.YtjkakgkiikjdmaaW.PrintLast Go.Proofs.YtjkakgkiikjdmaaW.PrintMore
attribute [local go_sem] max2_int min2_int max_two min_two max_three min_three max_four min_four   -- for this text's walks alone
set_option linter.unusedVariables false
set_option linter.unusedSimpArgs false

def papermillref04_with.l0 : Nat → List Int → Int → Int → Option (List Int)
 | 0, _, _, _ => none
 | k + 1, x0, x1, x5 => if x5 < (x0.length : Int) then (if 0 ≤ x5 then (if (rd x0 x5) < x1 then (papermillref04_with.l0 k x0 x1 (wrap64 (x5 + 1))) else (if (rd x0 x5) = x1 then (some x0) else ((some (([] : List Int) : List Int)).bind fun y104003 => (if x5 ≤ (x0.length : Int) then ((some (x0.take (x5 : Int).toNat : List Int)).bind fun y104006 => (if y104003.length + y104006.length < 17592186044416 then ((some (y104003 ++ y104006 : List Int)).bind fun y104010 => (if y104010.length < 17592186044416 then ((some (y104010 ++ [x1] : List Int)).bind fun y104013 => ((some (x0.drop (x5 : Int).toNat : List Int)).bind fun y104016 => (if y104013.length + y104016.length < 17592186044416 then (some (y104013 ++ y104016)) else (none)))) else (none))) else (none))) else (none))))) else (none)) else ((some (([] : List Int) : List Int)).bind fun y104023 => (if 0 ≤ x5 then (if x5 ≤ (x0.length : Int) then ((some (x0.take (x5 : Int).toNat : List Int)).bind fun y104026 => (if y104023.length + y104026.length < 17592186044416 then ((some (y104023 ++ y104026 : List Int)).bind fun y104030 => (if y104030.length < 17592186044416 then ((some (y104030 ++ [x1] : List Int)).bind fun y104033 => ((some (x0.drop (x5 : Int).toNat : List Int)).bind fun y104036 => (if y104033.length + y104036.length < 17592186044416 then (some (y104033 ++ y104036)) else (none)))) else (none))) else (none))) else (none)) else (none)))
def papermillref04_with.f (k : Nat) (l0 : List Int) (a1 : Int) : Option (List Int) := papermillref04_with.l0 k l0 a1 0
theorem papermillref04_with.mono_l : ∀ k, (∀ y0 y1 y2, LeO (papermillref04_with.l0 k y0 y1 y2) (papermillref04_with.l0 (k + 1) y0 y1 y2))
 | 0 => fun _ _ _ r h => by simp [papermillref04_with.l0] at h
 | k + 1 => by
  have ih0 := papermillref04_with.mono_l k
  ·intro y0 y1 y2
   unfold papermillref04_with.l0
   repeat' first
   | (with_reducible exact ih0 _ _ _)
   | (with_reducible exact LeO.refl _)
   | (with_reducible exact LeO.none _)
   | (with_reducible refine LeO.ite ?_ ?_)
   | (with_reducible refine LeO.bind ?_ (fun _ => ?_))
   | exact ih0 _ _ _
   | exact LeO.none _
   | refine LeO.ite ?_ ?_
   | refine LeO.bind ?_ (fun _ => ?_)
theorem papermillref04_with.mono : ∀ a0 a1 k, LeO (papermillref04_with.f k a0 a1) (papermillref04_with.f (k + 1) a0 a1) := by
 intro a0 a1 k
 have ih0 := papermillref04_with.mono_l k
 unfold papermillref04_with.f
 repeat' first
   | (with_reducible exact ih0 _ _ _)
   | (with_reducible exact LeO.refl _)
   | (with_reducible exact LeO.none _)
   | (with_reducible refine LeO.ite ?_ ?_)
   | (with_reducible refine LeO.bind ?_ (fun _ => ?_))
   | exact ih0 _ _ _
   | exact LeO.none _
   | refine LeO.ite ?_ ?_
   | refine LeO.bind ?_ (fun _ => ?_)
set_option maxHeartbeats 8000000 in
set_option maxRecDepth 100000 in
theorem papermillref04_with.calls (k : Nat) (P0_ : Nat → Prop) (u9000_ : Value) (l0 : List Int) (a1 : Int) (r : List Int) (w0 w : World) (hB : Below w0.heap.size w0 w) (ho0 : Kd.R (Kd.int .i64) 3 w w0.heap.size P0_ u9000_ l0) (h : papermillref04_with.f k l0 a1 = some r) :
  Calls Try.prog 103 #[u9000_, .int .i64 a1] w fun e w' => ∃ v0_ : Value, e = .returned (v0_) ∧ Kd.R (Kd.int .i64) 3 w' w0.heap.size (fun k_ => (P0_ k_ ∨ w.heap.size ≤ k_)) v0_ r ∧ Below w0.heap.size w0 w' ∧ Kept w w' (fun k_ => P0_ k_) := by
 have HO0 := Aside0.mk (show Kd.R (Kd.int .i64) 3 w w0.heap.size (fun k_ => (P0_ k_ ∨ w.heap.size ≤ k_)) u9000_ l0 from Kd.R_mono ho0 (fun k_ hk => (.inl hk)))
 have HK := Aside0.mk (Kept.refl w (fun k_ => P0_ k_))
 have HW0 := Aside0.mk hB.size
 have HB := Aside0.mk hB
 clear hB
 have H : (papermillref04_with.l0 k l0 a1 0) = some r := h
 clear h
 have H' := Aside0.mk H
 clear H
 go_enter Try.func103, Try.ntmps103
 go_wp2
 go_loopg [5] k (fun kq v5 w' => ∃ (x5_1 : Int), v5 = .int .i64 x5_1 ∧ Aside0 (papermillref04_with.l0 kq l0 a1 x5_1 = some r) ∧ Aside0 (kq ≤ k) ∧ Aside0 (Kd.R (Kd.int .i64) 3 w' w0.heap.size (fun k_ => (P0_ k_ ∨ w.heap.size ≤ k_)) u9000_ l0) ∧ Aside0 (Kept w w' (fun k_ => P0_ k_)) ∧ Aside0 (Below w0.heap.size w0 w'))
 case atStart => exact ⟨(0), (by first | rfl | (simp; done) | (simp [*]; done)), H', ⟨Nat.le_refl _⟩, ⟨HO0.out⟩, ⟨by repeat (first | (with_reducible first | exact HK.out | apply Kept.alloc | apply Kept.drewN | apply Kept.drew) | exact HK.out)⟩, ⟨by repeat (first | exact HB.out | apply below_alloc | apply pw_below_drewN | apply below_drew1)⟩⟩
 case round =>
  clear H'
  try clear c1
  try clear p2
  obtain ⟨x5_1, rfl, HA, HK1, HO_0, HK, HB⟩ := hrel
  cases gk with
  | zero => exact absurd HA.out (by simp [papermillref04_with.l0])
  | succ k1 =>
   have H := HA.out
   clear HA
   simp only [papermillref04_with.l0] at H
   by_cases c3 : x5_1 < (l0.length : Int)
   ·rw [if_pos c3] at H
    have c3b0 : decide (x5_1 < (l0.length : Int)) = true := decide_eq_true c3
    clear c3
    by_cases c4 : 0 ≤ x5_1
    ·rw [if_pos c4] at H
     have c4b0 : decide (0 ≤ x5_1) = true := decide_eq_true c4
     clear c4
     by_cases c5 : (rd l0 x5_1) < a1
     ·rw [if_pos c5] at H
      have c5b0 : decide ((rd l0 x5_1) < a1) = true := decide_eq_true c5
      clear c5
      have H' := Aside0.mk H
      clear H
      obtain ⟨Ao6, co6, eo6⟩ := Kd.R_slice HO_0.out
      subst eo6
      have p104001 : 0 ≤ (x5_1 : Int) := of_decide_eq_true (by assumption)
      have q104001 : x5_1 < (l0.length : Int) := of_decide_eq_true (by assumption)
      obtain ⟨ad104001, e104001, hx104001_0⟩ := Kd.at_int (Kd.R_reads' HO_0.out).2.2 x5_1 p104001 q104001
      cases e104001
      replace p104001 := eq_true p104001
      replace q104001 := eq_true q104001
      go_wp2
      go_roundg k1
      case measure => have := HK1.out; omega
      case rel => exact ⟨(wrap64 (x5_1 + 1)), (by first | rfl | (simp; done) | (simp [*]; done)), H', ⟨by have := HK1.out; omega⟩, ⟨HO_0.out⟩, ⟨by repeat (first | (with_reducible first | exact HK.out | apply Kept.alloc | apply Kept.drewN | apply Kept.drew) | exact HK.out)⟩, ⟨by repeat (first | exact HB.out | apply below_alloc | apply pw_below_drewN | apply below_drew1)⟩⟩
     ·rw [if_neg c5] at H
      have c5b0 : decide ((rd l0 x5_1) < a1) = false := decide_eq_false c5
      clear c5
      by_cases c7 : (rd l0 x5_1) = a1
      ·rw [if_pos c7] at H
       have c7b0 : ((rd l0 x5_1) == a1) = true := beq_iff_eq.mpr c7
       have c7b1 : ((rd l0 x5_1) != a1) = false := bne_eq_false_iff_eq.mpr c7
       clear c7
       obtain rfl := Option.some.inj H
       obtain ⟨Ao8, co8, eo8⟩ := Kd.R_slice HO_0.out
       subst eo8
       have p104001 : 0 ≤ (x5_1 : Int) := of_decide_eq_true (by assumption)
       have q104001 : x5_1 < (l0.length : Int) := of_decide_eq_true (by assumption)
       obtain ⟨ad104001, e104001, hx104001_0⟩ := Kd.at_int (Kd.R_reads' HO_0.out).2.2 x5_1 p104001 q104001
       cases e104001
       replace p104001 := eq_true p104001
       replace q104001 := eq_true q104001
       have p104002 : 0 ≤ (x5_1 : Int) := of_decide_eq_true (by assumption)
       have q104002 : x5_1 < (l0.length : Int) := of_decide_eq_true (by assumption)
       obtain ⟨ad104002, e104002, hx104002_0⟩ := Kd.at_int (Kd.R_reads' HO_0.out).2.2 x5_1 p104002 q104002
       obtain rfl : ad104001 = ad104002 := (by injection e104002)
       replace p104002 := eq_true p104002
       replace q104002 := eq_true q104002
       go_wp2
       go_ret
       exact ⟨_, by first | rfl | (simp [errW_none, errW_some] <;> rfl) | (simp [*, errW_none, errW_some] <;> rfl), by exact HO_0.out, by repeat (first | exact HB.out | apply below_alloc | apply pw_below_drewN | apply below_drew1), by repeat (first | (with_reducible first | exact HK.out | apply Kept.alloc | apply Kept.drewN | apply Kept.drew) | exact HK.out)⟩
      ·rw [if_neg c7] at H
       have c7b0 : ((rd l0 x5_1) == a1) = false := beq_eq_false_iff_ne.mpr c7
       have c7b1 : ((rd l0 x5_1) != a1) = true := bne_iff_ne.mpr c7
       obtain ⟨y104003, hy104003⟩ : ∃ y_ : List Int, y_ = (([] : List Int)) := ⟨_, rfl⟩
       replace H : (if x5_1 ≤ (l0.length : Int) then ((some (l0.take (x5_1 : Int).toNat : List Int)).bind fun y104006 => (if y104003.length + y104006.length < 17592186044416 then ((some (y104003 ++ y104006 : List Int)).bind fun y104010 => (if y104010.length < 17592186044416 then ((some (y104010 ++ [a1] : List Int)).bind fun y104013 => ((some (l0.drop (x5_1 : Int).toNat : List Int)).bind fun y104016 => (if y104013.length + y104016.length < 17592186044416 then (some (y104013 ++ y104016)) else (none)))) else (none))) else (none))) else (none)) = some r := by first | (rw [hy104003]; with_reducible exact H) | (have H2_ := (Option.bind_some _ _).symm.trans H; rw [hy104003]; with_reducible exact H2_) | (have H2_ := (Option.bind_some _ _).symm.trans H; with_reducible exact H2_) | with_reducible exact H | (rw [hy104003]; exact H) | exact H
       have Ny104003 := Aside0.mk hy104003
       clear hy104003
       have c9b0 := eq_true (of_decide_eq_true (by assumption) : 0 ≤ x5_1)
       by_cases c10 : x5_1 ≤ (l0.length : Int)
       ·rw [if_pos c10] at H
        have c10b0 := eq_true c10
        have c10b1 : decide (x5_1 ≤ (l0.length : Int)) = true := decide_eq_true c10
        clear c10
        obtain ⟨y104006, hy104006⟩ : ∃ y_ : List Int, y_ = (l0.take (x5_1 : Int).toNat) := ⟨_, rfl⟩
        replace H : (if y104003.length + y104006.length < 17592186044416 then ((some (y104003 ++ y104006 : List Int)).bind fun y104010 => (if y104010.length < 17592186044416 then ((some (y104010 ++ [a1] : List Int)).bind fun y104013 => ((some (l0.drop (x5_1 : Int).toNat : List Int)).bind fun y104016 => (if y104013.length + y104016.length < 17592186044416 then (some (y104013 ++ y104016)) else (none)))) else (none))) else (none)) = some r := by first | (rw [hy104006]; with_reducible exact H) | (have H2_ := (Option.bind_some _ _).symm.trans H; rw [hy104006]; with_reducible exact H2_) | (have H2_ := (Option.bind_some _ _).symm.trans H; with_reducible exact H2_) | with_reducible exact H | (rw [hy104006]; exact H) | exact H
        have Ny104006 := Aside0.mk hy104006
        clear hy104006
        by_cases c11 : y104003.length + y104006.length < 17592186044416
        ·rw [if_pos c11] at H
         have LMc11 := Aside0.mk c11
         clear c11
         obtain ⟨y104010, hy104010⟩ : ∃ y_ : List Int, y_ = (y104003 ++ y104006) := ⟨_, rfl⟩
         replace H : (if y104010.length < 17592186044416 then ((some (y104010 ++ [a1] : List Int)).bind fun y104013 => ((some (l0.drop (x5_1 : Int).toNat : List Int)).bind fun y104016 => (if y104013.length + y104016.length < 17592186044416 then (some (y104013 ++ y104016)) else (none)))) else (none)) = some r := by first | (rw [hy104010]; with_reducible exact H) | (have H2_ := (Option.bind_some _ _).symm.trans H; rw [hy104010]; with_reducible exact H2_) | (have H2_ := (Option.bind_some _ _).symm.trans H; with_reducible exact H2_) | with_reducible exact H | (rw [hy104010]; exact H) | exact H
         have Ny104010 := Aside0.mk hy104010
         clear hy104010
         by_cases c12 : y104010.length < 17592186044416
         ·rw [if_pos c12] at H
          have LMc12 := Aside0.mk c12
          clear c12
          obtain ⟨y104013, hy104013⟩ : ∃ y_ : List Int, y_ = (y104010 ++ [a1]) := ⟨_, rfl⟩
          replace H : ((some (l0.drop (x5_1 : Int).toNat : List Int)).bind fun y104016 => (if y104013.length + y104016.length < 17592186044416 then (some (y104013 ++ y104016)) else (none))) = some r := by first | (rw [hy104013]; with_reducible exact H) | (have H2_ := (Option.bind_some _ _).symm.trans H; rw [hy104013]; with_reducible exact H2_) | (have H2_ := (Option.bind_some _ _).symm.trans H; with_reducible exact H2_) | with_reducible exact H | (rw [hy104013]; exact H) | exact H
          have Ny104013 := Aside0.mk hy104013
          clear hy104013
          have c13b0 := eq_true (of_decide_eq_true (by assumption) : 0 ≤ x5_1)
          have c14b0 := eq_true (of_decide_eq_true (by assumption) : x5_1 ≤ (l0.length : Int))
          obtain ⟨y104016, hy104016⟩ : ∃ y_ : List Int, y_ = (l0.drop (x5_1 : Int).toNat) := ⟨_, rfl⟩
          replace H : (if y104013.length + y104016.length < 17592186044416 then (some (y104013 ++ y104016)) else (none)) = some r := by first | (rw [hy104016]; with_reducible exact H) | (have H2_ := (Option.bind_some _ _).symm.trans H; rw [hy104016]; with_reducible exact H2_) | (have H2_ := (Option.bind_some _ _).symm.trans H; with_reducible exact H2_) | with_reducible exact H | (rw [hy104016]; exact H) | exact H
          have Ny104016 := Aside0.mk hy104016
          clear hy104016
          by_cases c15 : y104013.length + y104016.length < 17592186044416
          ·rw [if_pos c15] at H
           have LMc15 := Aside0.mk c15
           clear c15
           obtain ⟨y104020, hy104020⟩ : ∃ y_ : List Int, y_ = (y104013 ++ y104016) := ⟨_, rfl⟩
           replace H : (some y104020) = some r := by first | (rw [hy104020]; with_reducible exact H) | (have H2_ := (Option.bind_some _ _).symm.trans H; rw [hy104020]; with_reducible exact H2_) | (have H2_ := (Option.bind_some _ _).symm.trans H; with_reducible exact H2_) | with_reducible exact H | (rw [hy104020]; exact H) | exact H
           have Ny104020 := Aside0.mk hy104020
           clear hy104020
           obtain rfl := Option.some.inj H
           obtain ⟨Ao16, co16, eo16⟩ := Kd.R_slice HO_0.out
           subst eo16
           have p104001 : 0 ≤ (x5_1 : Int) := of_decide_eq_true (by assumption)
           have q104001 : x5_1 < (l0.length : Int) := of_decide_eq_true (by assumption)
           obtain ⟨ad104001, e104001, hx104001_0⟩ := Kd.at_int (Kd.R_reads' HO_0.out).2.2 x5_1 p104001 q104001
           cases e104001
           replace p104001 := eq_true p104001
           replace q104001 := eq_true q104001
           have p104002 : 0 ≤ (x5_1 : Int) := of_decide_eq_true (by assumption)
           have q104002 : x5_1 < (l0.length : Int) := of_decide_eq_true (by assumption)
           obtain ⟨ad104002, e104002, hx104002_0⟩ := Kd.at_int (Kd.R_reads' HO_0.out).2.2 x5_1 p104002 q104002
           obtain rfl : ad104001 = ad104002 := (by injection e104002)
           replace p104002 := eq_true p104002
           replace q104002 := eq_true q104002
           go_wp2_with (first | ((with_reducible refine gate_dst (N := 34) rfl ?_); refine Kd.R_lit (Kd.int .i64) _ 3 ?hg (N := 34) ?hd (xs := ([] : List Int)) (inner := []) (ok := fun _ => True) (okp := fun _ => True) ?hr ?hp (fun _ hk => hk) trivial (Below.refl _ _) (Nat.le_refl _) (by simp) ?_; (case hd => rfl); (case hg => rfl); (case hr => first | (go_simp; done) | (go_simp; rfl)); (case hp => exact (Reps.none _ _)); intro v104004 w17 ho18 hb hg_ hnew_; clear hg_ hnew_; (first | rw [← Ny104003.out] at ho18 | (simp only [Int.reduceToNat] at ho18; rw [← Ny104003.out] at ho18)); have n0_ := Aside0.mk (Kd.R_elder' (HO_0.out) (Kd.R_base ho18) hb); have n1_ := Aside0.mk (Kd.R_lower (Kd.R_new' (Kd.R_newM (M := fun k_ => (P0_ k_ ∨ w.heap.size ≤ k_)) ho18 (by first | exact HK.out.1 | exact (show Kept w _ (fun k_ => P0_ k_) from by repeat (first | (with_reducible first | exact HK.out | apply Kept.alloc | apply Kept.drewN | apply Kept.drew) | exact HK.out)).1) (fun k_ h_ => .inr h_)) (Kd.R_lt (HO_0.out))) (below_size (by repeat (first | exact HB.out | apply below_alloc | apply pw_below_drewN | apply below_drew1)))); have n2_ := Aside0.mk (Kept.below (S := (fun k_ => P0_ k_)) (by repeat (first | (with_reducible first | exact HK.out | apply Kept.alloc | apply Kept.drewN | apply Kept.drew) | exact HK.out)) hb); have n3_ := Aside0.mk (below_step (by repeat (first | exact HB.out | apply below_alloc | apply pw_below_drewN | apply below_drew1)) hb); clear HO_0; clear HK; clear HB; have HO_0 := n0_; have HO104005 := n1_; have HK := n2_; have HB := n3_; clear n0_ n1_ n2_ n3_; clear hb ho18; have q19 : (x5_1 : Int) ≤ ((l0.length : Int) : Int) := of_decide_eq_true (by assumption); obtain ⟨i019, hi019, _, hsz19, _⟩ := info_parts info3; have hroom19 : l0.length ≤ co16 := (Kd.R_reads' HO_0.out).2.1; have hC19 : Kd.C (Kd.int .i64) _ (some ad104001) l0.length l0 := (Kd.R_reads' HO_0.out).2.2; have hcut19 := cut_to (P := Try.prog) 36 3 .i64 Try.underlying36 hi019 (some ad104001) l0.length co16 x5_1 (of_decide_eq_true (by assumption)) q19 hroom19; have hr19 := Kd.C_take (m := (x5_1 : Int).toNat) hC19 (by omega); have hy19 : y104006.length = (x5_1 : Int).toNat := (by rw [Ny104006.out, List.length_take]; omega); rw [← Ny104006.out] at hr19; rw [← hy19] at hcut19; have HR104009 := Aside0.mk hr19; have HC104009 := Aside0.mk (show y104006.length ≤ co16 from by omega); clear hr19 hC19 hroom19 hi019 hsz19; have KY19 := Aside0.mk hy19; clear hy19; have KL19 := Aside0.mk (show (x5_1 : Int).toNat ≤ l0.length from by omega); replace q19 := eq_true q19) | ((with_reducible refine gate_builtin (b := .append) (xs := #[.tmp 34, .tmp 37]) rfl ?_); at_builtin; refine Kd.R_append_rows (Kd.int .i64) (w0 := w0) w0.heap.size rfl (.tmp 34) (.tmp 37) 36 3 (.int .i64 0) 8 rfl Try.underlying36 info3 rfl (by decide) (by omega) v104004 y104003 y104006 _ _ _ (fun k_ => (P0_ k_ ∨ w.heap.size ≤ k_) ∧ some k_ ≠ (.slice (some ad104001) l0.length co16 : Value).ownBlock) (fun _ => False) rfl rfl ?aO ?aR (fun _ _ h => h) (fun _ h => h.elim) ?aF ?aB ?aS ?aL ?_; (case aR => repeat (first | exact (by repeat (first | (with_reducible exact HR104009.out) | (with_reducible refine Kd.C_alloc ?_ _) | (with_reducible refine Kd.C_drewN ?_ _) | (with_reducible refine Kd.C_drew ?_) | exact HR104009.out)) | (with_reducible refine Kd.C_alloc ?_ _) | (with_reducible refine Kd.C_drewN ?_ _) | (with_reducible refine Kd.C_drew ?_))); (case aB => exact (by repeat (first | exact HB.out | apply below_alloc | apply pw_below_drewN | apply below_drew1))); (case aF => exact (fun k_ hk => ⟨(.inr (Nat.le_trans (by first | exact HK.out.1 | exact (show Kept w _ (fun k_ => P0_ k_) from by repeat (first | (with_reducible first | exact HK.out | apply Kept.alloc | apply Kept.drewN | apply Kept.drew) | exact HK.out)).1) hk)), Kd.fresh' (Kd.R_lt (HO_0.out)) k_ hk⟩)); (case aO => exact (by exact Kd.R_mono HO104005.out (fun _ hk => ⟨hk.1.1, hk.2⟩))); (case aS => exact (below_size (by repeat (first | exact HB.out | apply below_alloc | apply pw_below_drewN | apply below_drew1)))); (case aL => have := LMc11.out; omega); intro v104011 w20 ho hb hg hat; rw [← Ny104010.out] at ho; have n0_ := Aside0.mk (Kd.R_after (ok := (fun k_ => (P0_ k_ ∨ w.heap.size ≤ k_))) (HO_0.out) hg hat); have n1_ := Aside0.mk (hb); have n2_ := Aside0.mk (Kept.of_grown (S := (fun k_ => P0_ k_)) hg (by repeat (first | (with_reducible first | exact HK.out | apply Kept.alloc | apply Kept.drewN | apply Kept.drew) | exact HK.out)) (fun k_ e_ => (HO104005.out.1 k_ e_).1.1)); have n3_ := Aside0.mk ((show Kd.C (Kd.int .i64) w20 (some ad104001) y104006.length y104006 from by rw [Ny104006.out]; exact Kd.C_take (m := (x5_1 : Int).toNat) ((Kd.R_reads' (Kd.R_after (ok := (fun k_ => (P0_ k_ ∨ w.heap.size ≤ k_))) (HO_0.out) hg hat)).2.2) KL19.out)); have n4_ := Aside0.mk (ho); clear HO_0; clear HB; clear HK; clear HR104009; clear HO104005; have HO_0 := n0_; have HB := n1_; have HK := n2_; have HR104009 := n3_; have HO104012 := n4_; clear n0_ n1_ n2_ n3_ n4_; clear ho hb hg hat) | ((with_reducible refine gate_builtin (b := .append) (xs := #[.tmp 39, .tmp 41]) rfl ?_); at_builtin; refine Kd.R_append (Kd.int .i64) (w0 := w0) w0.heap.size rfl (.tmp 39) (.tmp 41) 36 3 (.int .i64 0) 8 rfl Try.underlying36 info3 rfl (by decide) (by omega) v104011 y104010 a1 [.int .i64 a1] (fun k_ => (P0_ k_ ∨ w.heap.size ≤ k_) ∧ some k_ ≠ (.slice (some ad104001) l0.length co16 : Value).ownBlock) (fun _ => False) rfl rfl ?aP (fun _ hk => hk.elim) ?aF ?aO ?aB ?aS ?aL ?_; (case aP => exact rfl); (case aB => exact (by repeat (first | exact HB.out | apply below_alloc | apply pw_below_drewN | apply below_drew1))); (case aF => exact (fun k_ hk => ⟨(.inr (Nat.le_trans (by first | exact HK.out.1 | exact (show Kept w _ (fun k_ => P0_ k_) from by repeat (first | (with_reducible first | exact HK.out | apply Kept.alloc | apply Kept.drewN | apply Kept.drew) | exact HK.out)).1) hk)), Kd.fresh' (Kd.R_lt (HO_0.out)) k_ hk⟩)); (case aO => exact (HO104012.out)); (case aS => exact (below_size (by repeat (first | exact HB.out | apply below_alloc | apply pw_below_drewN | apply below_drew1)))); (case aL => have := LMc12.out; omega); intro v104014 w21 ho hb hg hat; rw [← Ny104013.out] at ho; have n0_ := Aside0.mk (Kd.R_after (ok := (fun k_ => (P0_ k_ ∨ w.heap.size ≤ k_))) (HO_0.out) hg hat); have n1_ := Aside0.mk (hb); have n2_ := Aside0.mk (Kept.of_grown (S := (fun k_ => P0_ k_)) hg (by repeat (first | (with_reducible first | exact HK.out | apply Kept.alloc | apply Kept.drewN | apply Kept.drew) | exact HK.out)) (fun k_ e_ => (HO104012.out.1 k_ e_).1)); have n3_ := Aside0.mk ((show Kd.C (Kd.int .i64) w21 (some ad104001) y104006.length y104006 from by rw [Ny104006.out]; exact Kd.C_take (m := (x5_1 : Int).toNat) ((Kd.R_reads' (Kd.R_after (ok := (fun k_ => (P0_ k_ ∨ w.heap.size ≤ k_))) (HO_0.out) hg hat)).2.2) KL19.out)); have n4_ := Aside0.mk (ho); clear HO_0; clear HB; clear HK; clear HR104009; clear HO104012; have HO_0 := n0_; have HB := n1_; have HK := n2_; have HR104009 := n3_; have HO104015 := n4_; clear n0_ n1_ n2_ n3_ n4_; clear ho hb hg hat; have q22 : (x5_1 : Int) ≤ ((l0.length : Int) : Int) := of_decide_eq_true (by assumption); obtain ⟨i022, hi022, _, hsz22, _⟩ := info_parts info3; have hroom22 : l0.length ≤ co16 := (Kd.R_reads' HO_0.out).2.1; have hC22 : Kd.C (Kd.int .i64) _ (some ad104001) l0.length l0 := (Kd.R_reads' HO_0.out).2.2; have q022 : (0 : Int) ≤ (x5_1 : Int) := of_decide_eq_true (by assumption); have hcut22 := cut_from (P := Try.prog) 36 3 .i64 Try.underlying36 hi022 1 hsz22 (some ad104001) l0.length co16 x5_1 q022 q22; have hr22 := Kd.C_drop (m := (x5_1 : Int).toNat) (c := co16) hC22 (by omega) hroom22; obtain ⟨A22, hA22⟩ : ∃ A1, A1 = (if co16 = (x5_1 : Int).toNat then (some ad104001) else ((some ad104001) : Option Addr).map (·.add ((x5_1 : Int).toNat * 1))) := ⟨_, rfl⟩; obtain ⟨c22, hc22⟩ : ∃ c1, c1 = co16 - (x5_1 : Int).toNat := ⟨_, rfl⟩; have hy22 : y104016.length = l0.length - (x5_1 : Int).toNat := (by rw [Ny104016.out, List.length_drop] <;> omega); rw [show (l0).drop (x5_1 : Int).toNat = y104016 from Ny104016.out.symm] at hr22; replace hr22 : Kd.C (Kd.int .i64) _ A22 y104016.length y104016 := (by rw [hA22]; exact hr22); rw [← hy22, ← hA22, ← hc22] at hcut22; have HR104019 := Aside0.mk hr22; have HC104019 := Aside0.mk (show y104016.length ≤ c22 from by rw [hy22, hc22]; exact Nat.sub_le_sub_right hroom22 _); clear hr22 hC22 hroom22 hi022 hsz22 hc22; have KY22 := Aside0.mk hy22; have KA22 := Aside0.mk hA22; clear hy22 hA22; have KL22 := Aside0.mk (show (x5_1 : Int).toNat ≤ l0.length from by omega); replace q22 := eq_true q22) | ((with_reducible refine gate_builtin (b := .append) (xs := #[.tmp 43, .tmp 46]) rfl ?_); at_builtin; refine Kd.R_append_rows (Kd.int .i64) (w0 := w0) w0.heap.size rfl (.tmp 43) (.tmp 46) 36 3 (.int .i64 0) 8 rfl Try.underlying36 info3 rfl (by decide) (by omega) v104014 y104013 y104016 _ _ _ (fun k_ => (P0_ k_ ∨ w.heap.size ≤ k_) ∧ some k_ ≠ (.slice (some ad104001) l0.length co16 : Value).ownBlock) (fun _ => False) rfl rfl ?aO ?aR (fun _ _ h => h) (fun _ h => h.elim) ?aF ?aB ?aS ?aL ?_; (case aR => repeat (first | exact (by repeat (first | (with_reducible exact HR104019.out) | (with_reducible refine Kd.C_alloc ?_ _) | (with_reducible refine Kd.C_drewN ?_ _) | (with_reducible refine Kd.C_drew ?_) | exact HR104019.out)) | (with_reducible refine Kd.C_alloc ?_ _) | (with_reducible refine Kd.C_drewN ?_ _) | (with_reducible refine Kd.C_drew ?_))); (case aB => exact (by repeat (first | exact HB.out | apply below_alloc | apply pw_below_drewN | apply below_drew1))); (case aF => exact (fun k_ hk => ⟨(.inr (Nat.le_trans (by first | exact HK.out.1 | exact (show Kept w _ (fun k_ => P0_ k_) from by repeat (first | (with_reducible first | exact HK.out | apply Kept.alloc | apply Kept.drewN | apply Kept.drew) | exact HK.out)).1) hk)), Kd.fresh' (Kd.R_lt (HO_0.out)) k_ hk⟩)); (case aO => exact (HO104015.out)); (case aS => exact (below_size (by repeat (first | exact HB.out | apply below_alloc | apply pw_below_drewN | apply below_drew1)))); (case aL => have := LMc15.out; omega); intro v104021 w23 ho hb hg hat; rw [← Ny104020.out] at ho; have n0_ := Aside0.mk (Kd.R_after (ok := (fun k_ => (P0_ k_ ∨ w.heap.size ≤ k_))) (HO_0.out) hg hat); have n1_ := Aside0.mk (hb); have n2_ := Aside0.mk (Kept.of_grown (S := (fun k_ => P0_ k_)) hg (by repeat (first | (with_reducible first | exact HK.out | apply Kept.alloc | apply Kept.drewN | apply Kept.drew) | exact HK.out)) (fun k_ e_ => (HO104015.out.1 k_ e_).1)); have n3_ := Aside0.mk ((show Kd.C (Kd.int .i64) w23 (some ad104001) y104006.length y104006 from by rw [Ny104006.out]; exact Kd.C_take (m := (x5_1 : Int).toNat) ((Kd.R_reads' (Kd.R_after (ok := (fun k_ => (P0_ k_ ∨ w.heap.size ≤ k_))) (HO_0.out) hg hat)).2.2) KL19.out)); have n4_ := Aside0.mk ((show Kd.C (Kd.int .i64) w23 A22 y104016.length y104016 from by rw [Ny104016.out, KA22.out]; exact Kd.C_drop (m := (x5_1 : Int).toNat) (c := co16) ((Kd.R_reads' (Kd.R_after (ok := (fun k_ => (P0_ k_ ∨ w.heap.size ≤ k_))) (HO_0.out) hg hat)).2.2) KL22.out ((Kd.R_reads' (Kd.R_after (ok := (fun k_ => (P0_ k_ ∨ w.heap.size ≤ k_))) (HO_0.out) hg hat)).2.1))); have n5_ := Aside0.mk (ho); clear HO_0; clear HB; clear HK; clear HR104009; clear HR104019; clear HO104015; have HO_0 := n0_; have HB := n1_; have HK := n2_; have HR104009 := n3_; have HR104019 := n4_; have HO104022 := n5_; clear n0_ n1_ n2_ n3_ n4_ n5_; clear ho hb hg hat))
           go_ret
           exact ⟨_, by first | rfl | (simp [errW_none, errW_some] <;> rfl) | (simp [*, errW_none, errW_some] <;> rfl), by exact Kd.R_mono HO104022.out (fun _ hk => hk.1), by repeat (first | exact HB.out | apply below_alloc | apply pw_below_drewN | apply below_drew1), by repeat (first | (with_reducible first | exact HK.out | apply Kept.alloc | apply Kept.drewN | apply Kept.drew) | exact HK.out)⟩
          ·rw [if_neg c15] at H
           exact absurd H (by simp)
         ·rw [if_neg c12] at H
          exact absurd H (by simp)
        ·rw [if_neg c11] at H
         exact absurd H (by simp)
       ·rw [if_neg c10] at H
        exact absurd H (by simp)
    ·rw [if_neg c4] at H
     exact absurd H (by simp)
   ·rw [if_neg c3] at H
    have c3b0 : decide (x5_1 < (l0.length : Int)) = false := decide_eq_false c3
    clear c3
    obtain ⟨y104023, hy104023⟩ : ∃ y_ : List Int, y_ = (([] : List Int)) := ⟨_, rfl⟩
    replace H : (if 0 ≤ x5_1 then (if x5_1 ≤ (l0.length : Int) then ((some (l0.take (x5_1 : Int).toNat : List Int)).bind fun y104026 => (if y104023.length + y104026.length < 17592186044416 then ((some (y104023 ++ y104026 : List Int)).bind fun y104030 => (if y104030.length < 17592186044416 then ((some (y104030 ++ [a1] : List Int)).bind fun y104033 => ((some (l0.drop (x5_1 : Int).toNat : List Int)).bind fun y104036 => (if y104033.length + y104036.length < 17592186044416 then (some (y104033 ++ y104036)) else (none)))) else (none))) else (none))) else (none)) else (none)) = some r := by first | (rw [hy104023]; with_reducible exact H) | (have H2_ := (Option.bind_some _ _).symm.trans H; rw [hy104023]; with_reducible exact H2_) | (have H2_ := (Option.bind_some _ _).symm.trans H; with_reducible exact H2_) | with_reducible exact H | (rw [hy104023]; exact H) | exact H
    have Ny104023 := Aside0.mk hy104023
    clear hy104023
    by_cases c24 : 0 ≤ x5_1
    ·rw [if_pos c24] at H
     have c24b0 := eq_true c24
     have c24b1 : decide (0 ≤ x5_1) = true := decide_eq_true c24
     clear c24
     by_cases c25 : x5_1 ≤ (l0.length : Int)
     ·rw [if_pos c25] at H
      have c25b0 := eq_true c25
      have c25b1 : decide (x5_1 ≤ (l0.length : Int)) = true := decide_eq_true c25
      clear c25
      obtain ⟨y104026, hy104026⟩ : ∃ y_ : List Int, y_ = (l0.take (x5_1 : Int).toNat) := ⟨_, rfl⟩
      replace H : (if y104023.length + y104026.length < 17592186044416 then ((some (y104023 ++ y104026 : List Int)).bind fun y104030 => (if y104030.length < 17592186044416 then ((some (y104030 ++ [a1] : List Int)).bind fun y104033 => ((some (l0.drop (x5_1 : Int).toNat : List Int)).bind fun y104036 => (if y104033.length + y104036.length < 17592186044416 then (some (y104033 ++ y104036)) else (none)))) else (none))) else (none)) = some r := by first | (rw [hy104026]; with_reducible exact H) | (have H2_ := (Option.bind_some _ _).symm.trans H; rw [hy104026]; with_reducible exact H2_) | (have H2_ := (Option.bind_some _ _).symm.trans H; with_reducible exact H2_) | with_reducible exact H | (rw [hy104026]; exact H) | exact H
      have Ny104026 := Aside0.mk hy104026
      clear hy104026
      by_cases c26 : y104023.length + y104026.length < 17592186044416
      ·rw [if_pos c26] at H
       have LMc26 := Aside0.mk c26
       clear c26
       obtain ⟨y104030, hy104030⟩ : ∃ y_ : List Int, y_ = (y104023 ++ y104026) := ⟨_, rfl⟩
       replace H : (if y104030.length < 17592186044416 then ((some (y104030 ++ [a1] : List Int)).bind fun y104033 => ((some (l0.drop (x5_1 : Int).toNat : List Int)).bind fun y104036 => (if y104033.length + y104036.length < 17592186044416 then (some (y104033 ++ y104036)) else (none)))) else (none)) = some r := by first | (rw [hy104030]; with_reducible exact H) | (have H2_ := (Option.bind_some _ _).symm.trans H; rw [hy104030]; with_reducible exact H2_) | (have H2_ := (Option.bind_some _ _).symm.trans H; with_reducible exact H2_) | with_reducible exact H | (rw [hy104030]; exact H) | exact H
       have Ny104030 := Aside0.mk hy104030
       clear hy104030
       by_cases c27 : y104030.length < 17592186044416
       ·rw [if_pos c27] at H
        have LMc27 := Aside0.mk c27
        clear c27
        obtain ⟨y104033, hy104033⟩ : ∃ y_ : List Int, y_ = (y104030 ++ [a1]) := ⟨_, rfl⟩
        replace H : ((some (l0.drop (x5_1 : Int).toNat : List Int)).bind fun y104036 => (if y104033.length + y104036.length < 17592186044416 then (some (y104033 ++ y104036)) else (none))) = some r := by first | (rw [hy104033]; with_reducible exact H) | (have H2_ := (Option.bind_some _ _).symm.trans H; rw [hy104033]; with_reducible exact H2_) | (have H2_ := (Option.bind_some _ _).symm.trans H; with_reducible exact H2_) | with_reducible exact H | (rw [hy104033]; exact H) | exact H
        have Ny104033 := Aside0.mk hy104033
        clear hy104033
        have c28b0 := eq_true (of_decide_eq_true (by assumption) : 0 ≤ x5_1)
        have c29b0 := eq_true (of_decide_eq_true (by assumption) : x5_1 ≤ (l0.length : Int))
        obtain ⟨y104036, hy104036⟩ : ∃ y_ : List Int, y_ = (l0.drop (x5_1 : Int).toNat) := ⟨_, rfl⟩
        replace H : (if y104033.length + y104036.length < 17592186044416 then (some (y104033 ++ y104036)) else (none)) = some r := by first | (rw [hy104036]; with_reducible exact H) | (have H2_ := (Option.bind_some _ _).symm.trans H; rw [hy104036]; with_reducible exact H2_) | (have H2_ := (Option.bind_some _ _).symm.trans H; with_reducible exact H2_) | with_reducible exact H | (rw [hy104036]; exact H) | exact H
        have Ny104036 := Aside0.mk hy104036
        clear hy104036
        by_cases c30 : y104033.length + y104036.length < 17592186044416
        ·rw [if_pos c30] at H
         have LMc30 := Aside0.mk c30
         clear c30
         obtain ⟨y104040, hy104040⟩ : ∃ y_ : List Int, y_ = (y104033 ++ y104036) := ⟨_, rfl⟩
         replace H : (some y104040) = some r := by first | (rw [hy104040]; with_reducible exact H) | (have H2_ := (Option.bind_some _ _).symm.trans H; rw [hy104040]; with_reducible exact H2_) | (have H2_ := (Option.bind_some _ _).symm.trans H; with_reducible exact H2_) | with_reducible exact H | (rw [hy104040]; exact H) | exact H
         have Ny104040 := Aside0.mk hy104040
         clear hy104040
         obtain rfl := Option.some.inj H
         obtain ⟨Ao31, co31, eo31⟩ := Kd.R_slice HO_0.out
         subst eo31
         go_wp2_with (first | ((with_reducible refine gate_dst (N := 34) rfl ?_); refine Kd.R_lit (Kd.int .i64) _ 3 ?hg (N := 34) ?hd (xs := ([] : List Int)) (inner := []) (ok := fun _ => True) (okp := fun _ => True) ?hr ?hp (fun _ hk => hk) trivial (Below.refl _ _) (Nat.le_refl _) (by simp) ?_; (case hd => rfl); (case hg => rfl); (case hr => first | (go_simp; done) | (go_simp; rfl)); (case hp => exact (Reps.none _ _)); intro v104024 w32 ho33 hb hg_ hnew_; clear hg_ hnew_; (first | rw [← Ny104023.out] at ho33 | (simp only [Int.reduceToNat] at ho33; rw [← Ny104023.out] at ho33)); have n0_ := Aside0.mk (Kd.R_elder' (HO_0.out) (Kd.R_base ho33) hb); have n1_ := Aside0.mk (Kd.R_lower (Kd.R_new' (Kd.R_newM (M := fun k_ => (P0_ k_ ∨ w.heap.size ≤ k_)) ho33 (by first | exact HK.out.1 | exact (show Kept w _ (fun k_ => P0_ k_) from by repeat (first | (with_reducible first | exact HK.out | apply Kept.alloc | apply Kept.drewN | apply Kept.drew) | exact HK.out)).1) (fun k_ h_ => .inr h_)) (Kd.R_lt (HO_0.out))) (below_size (by repeat (first | exact HB.out | apply below_alloc | apply pw_below_drewN | apply below_drew1)))); have n2_ := Aside0.mk (Kept.below (S := (fun k_ => P0_ k_)) (by repeat (first | (with_reducible first | exact HK.out | apply Kept.alloc | apply Kept.drewN | apply Kept.drew) | exact HK.out)) hb); have n3_ := Aside0.mk (below_step (by repeat (first | exact HB.out | apply below_alloc | apply pw_below_drewN | apply below_drew1)) hb); clear HO_0; clear HK; clear HB; have HO_0 := n0_; have HO104025 := n1_; have HK := n2_; have HB := n3_; clear n0_ n1_ n2_ n3_; clear hb ho33; have q34 : (x5_1 : Int) ≤ ((l0.length : Int) : Int) := of_decide_eq_true (by assumption); obtain ⟨i034, hi034, _, hsz34, _⟩ := info_parts info3; have hroom34 : l0.length ≤ co31 := (Kd.R_reads' HO_0.out).2.1; have hC34 : Kd.C (Kd.int .i64) _ Ao31 l0.length l0 := (Kd.R_reads' HO_0.out).2.2; have hcut34 := cut_to (P := Try.prog) 36 3 .i64 Try.underlying36 hi034 Ao31 l0.length co31 x5_1 (of_decide_eq_true (by assumption)) q34 hroom34; have hr34 := Kd.C_take (m := (x5_1 : Int).toNat) hC34 (by omega); have hy34 : y104026.length = (x5_1 : Int).toNat := (by rw [Ny104026.out, List.length_take]; omega); rw [← Ny104026.out] at hr34; rw [← hy34] at hcut34; have HR104029 := Aside0.mk hr34; have HC104029 := Aside0.mk (show y104026.length ≤ co31 from by omega); clear hr34 hC34 hroom34 hi034 hsz34; have KY34 := Aside0.mk hy34; clear hy34; have KL34 := Aside0.mk (show (x5_1 : Int).toNat ≤ l0.length from by omega); replace q34 := eq_true q34) | ((with_reducible refine gate_builtin (b := .append) (xs := #[.tmp 34, .tmp 37]) rfl ?_); at_builtin; refine Kd.R_append_rows (Kd.int .i64) (w0 := w0) w0.heap.size rfl (.tmp 34) (.tmp 37) 36 3 (.int .i64 0) 8 rfl Try.underlying36 info3 rfl (by decide) (by omega) v104024 y104023 y104026 _ _ _ (fun k_ => (P0_ k_ ∨ w.heap.size ≤ k_) ∧ some k_ ≠ (.slice Ao31 l0.length co31 : Value).ownBlock) (fun _ => False) rfl rfl ?aO ?aR (fun _ _ h => h) (fun _ h => h.elim) ?aF ?aB ?aS ?aL ?_; (case aR => repeat (first | exact (by repeat (first | (with_reducible exact HR104029.out) | (with_reducible refine Kd.C_alloc ?_ _) | (with_reducible refine Kd.C_drewN ?_ _) | (with_reducible refine Kd.C_drew ?_) | exact HR104029.out)) | (with_reducible refine Kd.C_alloc ?_ _) | (with_reducible refine Kd.C_drewN ?_ _) | (with_reducible refine Kd.C_drew ?_))); (case aB => exact (by repeat (first | exact HB.out | apply below_alloc | apply pw_below_drewN | apply below_drew1))); (case aF => exact (fun k_ hk => ⟨(.inr (Nat.le_trans (by first | exact HK.out.1 | exact (show Kept w _ (fun k_ => P0_ k_) from by repeat (first | (with_reducible first | exact HK.out | apply Kept.alloc | apply Kept.drewN | apply Kept.drew) | exact HK.out)).1) hk)), Kd.fresh' (Kd.R_lt (HO_0.out)) k_ hk⟩)); (case aO => exact (by exact Kd.R_mono HO104025.out (fun _ hk => ⟨hk.1.1, hk.2⟩))); (case aS => exact (below_size (by repeat (first | exact HB.out | apply below_alloc | apply pw_below_drewN | apply below_drew1)))); (case aL => have := LMc26.out; omega); intro v104031 w35 ho hb hg hat; rw [← Ny104030.out] at ho; have n0_ := Aside0.mk (Kd.R_after (ok := (fun k_ => (P0_ k_ ∨ w.heap.size ≤ k_))) (HO_0.out) hg hat); have n1_ := Aside0.mk (hb); have n2_ := Aside0.mk (Kept.of_grown (S := (fun k_ => P0_ k_)) hg (by repeat (first | (with_reducible first | exact HK.out | apply Kept.alloc | apply Kept.drewN | apply Kept.drew) | exact HK.out)) (fun k_ e_ => (HO104025.out.1 k_ e_).1.1)); have n3_ := Aside0.mk ((show Kd.C (Kd.int .i64) w35 Ao31 y104026.length y104026 from by rw [Ny104026.out]; exact Kd.C_take (m := (x5_1 : Int).toNat) ((Kd.R_reads' (Kd.R_after (ok := (fun k_ => (P0_ k_ ∨ w.heap.size ≤ k_))) (HO_0.out) hg hat)).2.2) KL34.out)); have n4_ := Aside0.mk (ho); clear HO_0; clear HB; clear HK; clear HR104029; clear HO104025; have HO_0 := n0_; have HB := n1_; have HK := n2_; have HR104029 := n3_; have HO104032 := n4_; clear n0_ n1_ n2_ n3_ n4_; clear ho hb hg hat) | ((with_reducible refine gate_builtin (b := .append) (xs := #[.tmp 39, .tmp 41]) rfl ?_); at_builtin; refine Kd.R_append (Kd.int .i64) (w0 := w0) w0.heap.size rfl (.tmp 39) (.tmp 41) 36 3 (.int .i64 0) 8 rfl Try.underlying36 info3 rfl (by decide) (by omega) v104031 y104030 a1 [.int .i64 a1] (fun k_ => (P0_ k_ ∨ w.heap.size ≤ k_) ∧ some k_ ≠ (.slice Ao31 l0.length co31 : Value).ownBlock) (fun _ => False) rfl rfl ?aP (fun _ hk => hk.elim) ?aF ?aO ?aB ?aS ?aL ?_; (case aP => exact rfl); (case aB => exact (by repeat (first | exact HB.out | apply below_alloc | apply pw_below_drewN | apply below_drew1))); (case aF => exact (fun k_ hk => ⟨(.inr (Nat.le_trans (by first | exact HK.out.1 | exact (show Kept w _ (fun k_ => P0_ k_) from by repeat (first | (with_reducible first | exact HK.out | apply Kept.alloc | apply Kept.drewN | apply Kept.drew) | exact HK.out)).1) hk)), Kd.fresh' (Kd.R_lt (HO_0.out)) k_ hk⟩)); (case aO => exact (HO104032.out)); (case aS => exact (below_size (by repeat (first | exact HB.out | apply below_alloc | apply pw_below_drewN | apply below_drew1)))); (case aL => have := LMc27.out; omega); intro v104034 w36 ho hb hg hat; rw [← Ny104033.out] at ho; have n0_ := Aside0.mk (Kd.R_after (ok := (fun k_ => (P0_ k_ ∨ w.heap.size ≤ k_))) (HO_0.out) hg hat); have n1_ := Aside0.mk (hb); have n2_ := Aside0.mk (Kept.of_grown (S := (fun k_ => P0_ k_)) hg (by repeat (first | (with_reducible first | exact HK.out | apply Kept.alloc | apply Kept.drewN | apply Kept.drew) | exact HK.out)) (fun k_ e_ => (HO104032.out.1 k_ e_).1)); have n3_ := Aside0.mk ((show Kd.C (Kd.int .i64) w36 Ao31 y104026.length y104026 from by rw [Ny104026.out]; exact Kd.C_take (m := (x5_1 : Int).toNat) ((Kd.R_reads' (Kd.R_after (ok := (fun k_ => (P0_ k_ ∨ w.heap.size ≤ k_))) (HO_0.out) hg hat)).2.2) KL34.out)); have n4_ := Aside0.mk (ho); clear HO_0; clear HB; clear HK; clear HR104029; clear HO104032; have HO_0 := n0_; have HB := n1_; have HK := n2_; have HR104029 := n3_; have HO104035 := n4_; clear n0_ n1_ n2_ n3_ n4_; clear ho hb hg hat; have q37 : (x5_1 : Int) ≤ ((l0.length : Int) : Int) := of_decide_eq_true (by assumption); obtain ⟨i037, hi037, _, hsz37, _⟩ := info_parts info3; have hroom37 : l0.length ≤ co31 := (Kd.R_reads' HO_0.out).2.1; have hC37 : Kd.C (Kd.int .i64) _ Ao31 l0.length l0 := (Kd.R_reads' HO_0.out).2.2; have q037 : (0 : Int) ≤ (x5_1 : Int) := of_decide_eq_true (by assumption); have hcut37 := cut_from (P := Try.prog) 36 3 .i64 Try.underlying36 hi037 1 hsz37 Ao31 l0.length co31 x5_1 q037 q37; have hr37 := Kd.C_drop (m := (x5_1 : Int).toNat) (c := co31) hC37 (by omega) hroom37; obtain ⟨A37, hA37⟩ : ∃ A1, A1 = (if co31 = (x5_1 : Int).toNat then Ao31 else (Ao31 : Option Addr).map (·.add ((x5_1 : Int).toNat * 1))) := ⟨_, rfl⟩; obtain ⟨c37, hc37⟩ : ∃ c1, c1 = co31 - (x5_1 : Int).toNat := ⟨_, rfl⟩; have hy37 : y104036.length = l0.length - (x5_1 : Int).toNat := (by rw [Ny104036.out, List.length_drop] <;> omega); rw [show (l0).drop (x5_1 : Int).toNat = y104036 from Ny104036.out.symm] at hr37; replace hr37 : Kd.C (Kd.int .i64) _ A37 y104036.length y104036 := (by rw [hA37]; exact hr37); rw [← hy37, ← hA37, ← hc37] at hcut37; have HR104039 := Aside0.mk hr37; have HC104039 := Aside0.mk (show y104036.length ≤ c37 from by rw [hy37, hc37]; exact Nat.sub_le_sub_right hroom37 _); clear hr37 hC37 hroom37 hi037 hsz37 hc37; have KY37 := Aside0.mk hy37; have KA37 := Aside0.mk hA37; clear hy37 hA37; have KL37 := Aside0.mk (show (x5_1 : Int).toNat ≤ l0.length from by omega); replace q37 := eq_true q37) | ((with_reducible refine gate_builtin (b := .append) (xs := #[.tmp 43, .tmp 46]) rfl ?_); at_builtin; refine Kd.R_append_rows (Kd.int .i64) (w0 := w0) w0.heap.size rfl (.tmp 43) (.tmp 46) 36 3 (.int .i64 0) 8 rfl Try.underlying36 info3 rfl (by decide) (by omega) v104034 y104033 y104036 _ _ _ (fun k_ => (P0_ k_ ∨ w.heap.size ≤ k_) ∧ some k_ ≠ (.slice Ao31 l0.length co31 : Value).ownBlock) (fun _ => False) rfl rfl ?aO ?aR (fun _ _ h => h) (fun _ h => h.elim) ?aF ?aB ?aS ?aL ?_; (case aR => repeat (first | exact (by repeat (first | (with_reducible exact HR104039.out) | (with_reducible refine Kd.C_alloc ?_ _) | (with_reducible refine Kd.C_drewN ?_ _) | (with_reducible refine Kd.C_drew ?_) | exact HR104039.out)) | (with_reducible refine Kd.C_alloc ?_ _) | (with_reducible refine Kd.C_drewN ?_ _) | (with_reducible refine Kd.C_drew ?_))); (case aB => exact (by repeat (first | exact HB.out | apply below_alloc | apply pw_below_drewN | apply below_drew1))); (case aF => exact (fun k_ hk => ⟨(.inr (Nat.le_trans (by first | exact HK.out.1 | exact (show Kept w _ (fun k_ => P0_ k_) from by repeat (first | (with_reducible first | exact HK.out | apply Kept.alloc | apply Kept.drewN | apply Kept.drew) | exact HK.out)).1) hk)), Kd.fresh' (Kd.R_lt (HO_0.out)) k_ hk⟩)); (case aO => exact (HO104035.out)); (case aS => exact (below_size (by repeat (first | exact HB.out | apply below_alloc | apply pw_below_drewN | apply below_drew1)))); (case aL => have := LMc30.out; omega); intro v104041 w38 ho hb hg hat; rw [← Ny104040.out] at ho; have n0_ := Aside0.mk (Kd.R_after (ok := (fun k_ => (P0_ k_ ∨ w.heap.size ≤ k_))) (HO_0.out) hg hat); have n1_ := Aside0.mk (hb); have n2_ := Aside0.mk (Kept.of_grown (S := (fun k_ => P0_ k_)) hg (by repeat (first | (with_reducible first | exact HK.out | apply Kept.alloc | apply Kept.drewN | apply Kept.drew) | exact HK.out)) (fun k_ e_ => (HO104035.out.1 k_ e_).1)); have n3_ := Aside0.mk ((show Kd.C (Kd.int .i64) w38 Ao31 y104026.length y104026 from by rw [Ny104026.out]; exact Kd.C_take (m := (x5_1 : Int).toNat) ((Kd.R_reads' (Kd.R_after (ok := (fun k_ => (P0_ k_ ∨ w.heap.size ≤ k_))) (HO_0.out) hg hat)).2.2) KL34.out)); have n4_ := Aside0.mk ((show Kd.C (Kd.int .i64) w38 A37 y104036.length y104036 from by rw [Ny104036.out, KA37.out]; exact Kd.C_drop (m := (x5_1 : Int).toNat) (c := co31) ((Kd.R_reads' (Kd.R_after (ok := (fun k_ => (P0_ k_ ∨ w.heap.size ≤ k_))) (HO_0.out) hg hat)).2.2) KL37.out ((Kd.R_reads' (Kd.R_after (ok := (fun k_ => (P0_ k_ ∨ w.heap.size ≤ k_))) (HO_0.out) hg hat)).2.1))); have n5_ := Aside0.mk (ho); clear HO_0; clear HB; clear HK; clear HR104029; clear HR104039; clear HO104035; have HO_0 := n0_; have HB := n1_; have HK := n2_; have HR104029 := n3_; have HR104039 := n4_; have HO104042 := n5_; clear n0_ n1_ n2_ n3_ n4_ n5_; clear ho hb hg hat))
         go_ret
         exact ⟨_, by first | rfl | (simp [errW_none, errW_some] <;> rfl) | (simp [*, errW_none, errW_some] <;> rfl), by exact Kd.R_mono HO104042.out (fun _ hk => hk.1), by repeat (first | exact HB.out | apply below_alloc | apply pw_below_drewN | apply below_drew1), by repeat (first | (with_reducible first | exact HK.out | apply Kept.alloc | apply Kept.drewN | apply Kept.drew) | exact HK.out)⟩
        ·rw [if_neg c30] at H
         exact absurd H (by simp)
       ·rw [if_neg c27] at H
        exact absurd H (by simp)
      ·rw [if_neg c26] at H
       exact absurd H (by simp)
     ·rw [if_neg c25] at H
      exact absurd H (by simp)
    ·rw [if_neg c24] at H
     exact absurd H (by simp)

end Go.Proofs.Ytjkakgkiikjdmaa.G

namespace Go.Proofs.Ytjkakgkiikjdmaa.G
open Go.RowKit Go.Proofs.YtjkakgkiikjdmaaW.PrintWords Go.Proofs.YtjkakgkiikjdmaaW.PrintLast Go.Proofs.YtjkakgkiikjdmaaW.PrintMore
attribute [local go_sem] max2_int min2_int max_two min_two max_three min_three max_four min_four   -- for this text's walks alone
set_option linter.unusedVariables false
set_option linter.unusedSimpArgs false

mutual
def papermillref04_ends.l0 : Nat → List (S49) → List (S49) → List Int → Int → Option (List Int)
 | 0, _, _, _, _ => none
 | k + 1, x0, x1, x5, x6 => if x6 < (x0.length : Int) then (if 0 ≤ x6 then ((papermillref04_with.f k x5 ((rd_T49 x0 x6).f0)).bind fun t81002 => ((papermillref04_with.f k t81002 ((rd_T49 x0 x6).f1)).bind fun t81006 => (papermillref04_ends.l0 k x0 x1 t81006 (wrap64 (x6 + 1))))) else (none)) else (papermillref04_ends.l1 k x1 x5 0)
def papermillref04_ends.l1 : Nat → List (S49) → List Int → Int → Option (List Int)
 | 0, _, _, _ => none
 | k + 1, x1, x5, x7 => if x7 < (x1.length : Int) then (if 0 ≤ x7 then ((papermillref04_with.f k x5 ((rd_T49 x1 x7).f0)).bind fun t81010 => ((papermillref04_with.f k t81010 ((rd_T49 x1 x7).f1)).bind fun t81014 => (papermillref04_ends.l1 k x1 t81014 (wrap64 (x7 + 1))))) else (none)) else (some x5)
end
def papermillref04_ends.f (k : Nat) (l0 : List (S49)) (l1 : List (S49)) : Option (List Int) := papermillref04_ends.l0 k l0 l1 ([] : List Int) 0
theorem papermillref04_ends.mono_l : ∀ k, (∀ y0 y1 y2 y3, LeO (papermillref04_ends.l0 k y0 y1 y2 y3) (papermillref04_ends.l0 (k + 1) y0 y1 y2 y3)) ∧ (∀ y0 y1 y2, LeO (papermillref04_ends.l1 k y0 y1 y2) (papermillref04_ends.l1 (k + 1) y0 y1 y2))
 | 0 => ⟨fun _ _ _ _ r h => by simp [papermillref04_ends.l0] at h, fun _ _ _ r h => by simp [papermillref04_ends.l1] at h⟩
 | k + 1 => by
  obtain ⟨ih0, ih1⟩ := papermillref04_ends.mono_l k
  refine ⟨?_, ?_⟩
  ·intro y0 y1 y2 y3
   unfold papermillref04_ends.l0
   repeat' first
   | (with_reducible exact ih0 _ _ _ _)
   | (with_reducible exact ih1 _ _ _)
   | (with_reducible exact papermillref04_with.mono _ _ _)
   | (with_reducible exact LeO.refl _)
   | (with_reducible exact LeO.none _)
   | (with_reducible refine LeO.ite ?_ ?_)
   | (with_reducible refine LeO.bind ?_ (fun _ => ?_))
   | exact ih0 _ _ _ _
   | exact ih1 _ _ _
   | exact papermillref04_with.mono _ _ _
   | exact LeO.none _
   | refine LeO.ite ?_ ?_
   | refine LeO.bind ?_ (fun _ => ?_)
  ·intro y0 y1 y2
   unfold papermillref04_ends.l1
   repeat' first
   | (with_reducible exact ih0 _ _ _ _)
   | (with_reducible exact ih1 _ _ _)
   | (with_reducible exact papermillref04_with.mono _ _ _)
   | (with_reducible exact LeO.refl _)
   | (with_reducible exact LeO.none _)
   | (with_reducible refine LeO.ite ?_ ?_)
   | (with_reducible refine LeO.bind ?_ (fun _ => ?_))
   | exact ih0 _ _ _ _
   | exact ih1 _ _ _
   | exact papermillref04_with.mono _ _ _
   | exact LeO.none _
   | refine LeO.ite ?_ ?_
   | refine LeO.bind ?_ (fun _ => ?_)
theorem papermillref04_ends.mono : ∀ a0 a1 k, LeO (papermillref04_ends.f k a0 a1) (papermillref04_ends.f (k + 1) a0 a1) := by
 intro a0 a1 k
 obtain ⟨ih0, ih1⟩ := papermillref04_ends.mono_l k
 unfold papermillref04_ends.f
 repeat' first
   | (with_reducible exact ih0 _ _ _ _)
   | (with_reducible exact ih1 _ _ _)
   | (with_reducible exact papermillref04_with.mono _ _ _)
   | (with_reducible exact LeO.refl _)
   | (with_reducible exact LeO.none _)
   | (with_reducible refine LeO.ite ?_ ?_)
   | (with_reducible refine LeO.bind ?_ (fun _ => ?_))
   | exact ih0 _ _ _ _
   | exact ih1 _ _ _
   | exact papermillref04_with.mono _ _ _
   | exact LeO.none _
   | refine LeO.ite ?_ ?_
   | refine LeO.bind ?_ (fun _ => ?_)
def papermillref04_ends.T5 : Bool × List (List Nat × List Nat) := (true, [([], []), ([], []), ([], []), ([1, 2], [1, 2]), ([3], [3]), ([4], [4]), ([0, 5], [0, 5]), ([], []), ([], []), ([7, 8], [7, 8]), ([9], [9]), ([10], [10]), ([6, 11, 6], [6, 11]), ([12, 12, 0, 1, 2, 3, 4, 5, 6, 7, 8, 9, 10, 11, 12], [0, 12])])
def papermillref04_ends.B5 : List Nat := [0, 0, 0, 6, 14, 30, 63, 0, 0, 384, 896, 1920, 4095, 8191]
theorem papermillref04_ends.tab5 : rtab .any (opsOf Try.f80 5) = papermillref04_ends.T5 := by kernel_rfl
theorem papermillref04_ends.bits5 : waitsOk papermillref04_ends.T5.2 papermillref04_ends.B5 = true := by kernel_rfl
def papermillref04_ends.T9 : Bool × List (List Nat × List Nat) := (true, [([], []), ([], []), ([], []), ([1, 2], [1, 2]), ([3], [3]), ([4], [4]), ([0, 5], [0, 5]), ([], []), ([], []), ([7, 8], [7, 8]), ([9], [9]), ([10], [10]), ([6, 11, 6], [6, 11]), ([12, 12, 0, 1, 2, 3, 4, 5, 6, 7, 8, 9, 10, 11, 12], [0, 12])])
def papermillref04_ends.B9 : List Nat := [0, 0, 0, 6, 14, 30, 63, 0, 0, 384, 896, 1920, 4095, 8191]
theorem papermillref04_ends.tab9 : rtab .any (opsOf Try.f80 9) = papermillref04_ends.T9 := by kernel_rfl
theorem papermillref04_ends.bits9 : waitsOk papermillref04_ends.T9.2 papermillref04_ends.B9 = true := by kernel_rfl
set_option maxHeartbeats 8000000 in
set_option maxRecDepth 100000 in
theorem papermillref04_ends.calls (k : Nat) (A0 : Option Addr) (c0 : Nat) (l0 : List (S49)) (A1 : Option Addr) (c1 : Nat) (l1 : List (S49)) (r : List Int) (w : World) (hr0 : Kd.C k49 w A0 l0.length l0) (hc0 : l0.length ≤ c0) (hr1 : Kd.C k49 w A1 l1.length l1) (hc1 : l1.length ≤ c1) (h : papermillref04_ends.f k l0 l1 = some r) :
  Calls Try.prog 80 #[.slice A0 l0.length c0, .slice A1 l1.length c1] w fun e w' => ∃ v0_ : Value, e = .returned (v0_) ∧ Kd.R (Kd.int .i64) 3 w' w.heap.size (fun _ => True) v0_ r ∧ Below w.heap.size w w' := by
 have HR0 := Aside0.mk hr0
 have HC0 := Aside0.mk hc0
 clear hr0 hc0
 have HR1 := Aside0.mk hr1
 have HC1 := Aside0.mk hc1
 clear hr1 hc1
 have HB := Aside0.mk (Below.refl w.heap.size w)
 have H : (papermillref04_ends.l0 k l0 l1 ([] : List Int) 0) = some r := h
 clear h
 have H' := Aside0.mk H
 clear H
 go_enter Try.func80, Try.ntmps80
 go_wp2
 go_loopg [5, 6] k (fun kq v5 v6 w' => ∃ (x5_1 : List Int) (x6_1 : Int), v6 = .int .i64 x6_1 ∧ Aside0 (papermillref04_ends.l0 kq l0 l1 x5_1 x6_1 = some r) ∧ Aside0 (kq ≤ k) ∧ Aside0 (Kd.R (Kd.int .i64) 3 w' w.heap.size (fun _ => True) v5 x5_1) ∧ Aside0 (Below w.heap.size w w'))
 case atStart => exact ⟨(([] : List Int)), (0), (by first | rfl | (simp; done) | (simp [*]; done)), H', ⟨Nat.le_refl _⟩, ⟨by first | exact Kd.R_nil _ _ _ _ _ | exact Kd.N_nil _ _ _ _ _ | exact Kd.V_nil _ _ _ _ _ | exact Kd.Q_nil _ _ _ _ _ | exact Kd.S_nil _ _ _ _ _⟩, ⟨by repeat (first | exact HB.out | apply below_alloc | apply pw_below_drewN | apply below_drew1)⟩⟩
 case round =>
  clear H'
  try clear c1
  try clear p2
  obtain ⟨x5_1, x6_1, rfl, HA, HK1, HO_5, HB⟩ := hrel
  cases gk with
  | zero => exact absurd HA.out (by simp [papermillref04_ends.l0])
  | succ k1 =>
   have H := HA.out
   clear HA
   simp only [papermillref04_ends.l0] at H
   by_cases c3 : x6_1 < (l0.length : Int)
   ·rw [if_pos c3] at H
    have c3b0 : decide (x6_1 < (l0.length : Int)) = true := decide_eq_true c3
    clear c3
    by_cases c4 : 0 ≤ x6_1
    ·rw [if_pos c4] at H
     have c4b0 : decide (0 ≤ x6_1) = true := decide_eq_true c4
     clear c4
     replace H := Option.bind_eq_some_iff.mp H
     obtain ⟨t81002, A50, H⟩ := H
     replace H : ((papermillref04_with.f k1 t81002 ((rd_T49 l0 x6_1).f1)).bind fun t81006 => (papermillref04_ends.l0 k1 l0 l1 t81006 (wrap64 (x6_1 + 1)))) = some r := H
     have A5 := Aside0.mk A50
     clear A50
     replace H := Option.bind_eq_some_iff.mp H
     obtain ⟨t81006, A60, H⟩ := H
     replace H : (papermillref04_ends.l0 k1 l0 l1 t81006 (wrap64 (x6_1 + 1))) = some r := H
     have A6 := Aside0.mk A60
     clear A60
     have H' := Aside0.mk H
     clear H
     try go_wp2
     have n0_ := Aside0.mk (Kd.R_drew HO_5.out)
     have n1_ := Aside0.mk (below_drew1 HB.out)
     clear HO_5
     clear HB
     have HO_5 := n0_
     have HB := n1_
     clear n0_ n1_
     have p81001 : 0 ≤ (x6_1 : Int) := of_decide_eq_true (by assumption)
     have q81001 : x6_1 < (l0.length : Int) := of_decide_eq_true (by assumption)
     obtain ⟨ad81001, e81001, hx81001_0, hx81001_1⟩ := at_T49 HR0.out x6_1 p81001 q81001
     have hw81001_1 := hx81001_1
     have hw81001_0 := hx81001_0
     cases e81001
     replace hx81001_0 := (HB.out.cell (World.block_lt_of_cell? w _ hx81001_0)).trans hx81001_0
     replace hx81001_1 := (HB.out.cell (World.block_lt_of_cell? w _ hx81001_1)).trans hx81001_1
     replace p81001 := eq_true p81001
     replace q81001 := eq_true q81001
     have p81005 : 0 ≤ (x6_1 : Int) := of_decide_eq_true (by assumption)
     have q81005 : x6_1 < (l0.length : Int) := of_decide_eq_true (by assumption)
     obtain ⟨ad81005, e81005, hx81005_0, hx81005_1⟩ := at_T49 HR0.out x6_1 p81005 q81005
     have hw81005_1 := hx81005_1
     have hw81005_0 := hx81005_0
     obtain rfl : ad81001 = ad81005 := (by injection e81005)
     replace hx81005_0 := (HB.out.cell (World.block_lt_of_cell? w _ hx81005_0)).trans hx81005_0
     replace hx81005_1 := (HB.out.cell (World.block_lt_of_cell? w _ hx81005_1)).trans hx81005_1
     replace p81005 := eq_true p81005
     replace q81005 := eq_true q81005
     obtain ⟨Ao8, co8, eo8⟩ := Kd.R_slice HO_5.out
     (first | subst eo8 | (injection eo8 with f1_ f2_ f3_; have f4_ := f1_.symm; have f5_ := f3_.symm; clear f1_ f2_ f3_; subst f4_; subst f5_))
     refine start_ (n := 14) (S := fun w' => w'.cell? (ad81001.add ((x6_1).toNat * 2)) = some (.int .i64 ((rd_T49 l0 x6_1).f0)) ∧ w'.cell? ⟨(ad81001.add ((x6_1).toNat * 2)).block, (ad81001.add ((x6_1).toNat * 2)).off + 1, none⟩ = some (.int .i64 ((rd_T49 l0 x6_1).f1)) ∧ w'.cell? (ad81001.add ((x6_1).toNat * 2)) = some (.int .i64 ((rd_T49 l0 x6_1).f0)) ∧ w'.cell? ⟨(ad81001.add ((x6_1).toNat * 2)).block, (ad81001.add ((x6_1).toNat * 2)).off + 1, none⟩ = some (.int .i64 ((rd_T49 l0 x6_1).f1))) (ds := []) #[false, false, false, false, false, false, false, false, false, false, false, false, false, false] (by kernel_rfl) rfl rfl ⟨((HB.out.cell (World.block_lt_of_cell? w _ hw81001_0)).trans hw81001_0), ((HB.out.cell (World.block_lt_of_cell? w _ hw81001_1)).trans hw81001_1), ((HB.out.cell (World.block_lt_of_cell? w _ hw81005_0)).trans hw81005_0), ((HB.out.cell (World.block_lt_of_cell? w _ hw81005_1)).trans hw81005_1)⟩ (fun hHeld => ?_); refine with_tabW papermillref04_ends.tab5 papermillref04_ends.bits5 (fun HT_ HW_ => ?_)
     generalize wr.drew = w7 at HO_5 HB hx81001_0 hx81001_1 hx81005_0 hx81005_1 hHeld ⊢
     refine pure_ (i := 0) (N := some 14) (v := ?_) (a' := ?_) #[true, false, false, false, false, false, false, false, false, false, false, false, false, false] rfl rfl (any_of HT_.out (by kernel_rfl)) (fun _ _ _ h => h) (Or.inl ⟨by rfl, ?_⟩) ?_ ?_
     rotate_left
     ·intro w'
      go_simp
      with_reducible rfl
     rotate_left
     ·simp only [Act.put, List.setIfInBounds_toArray, List.set_cons_zero, List.set_cons_succ, i64_w, i32_w]
      rfl
     refine pure_ (i := 1) (N := some 15) (v := ?_) (a' := ?_) #[true, true, false, false, false, false, false, false, false, false, false, false, false, false] rfl rfl (any_of HT_.out (by kernel_rfl)) (fun _ _ _ h => h) (Or.inl ⟨by rfl, ?_⟩) ?_ ?_
     rotate_left
     ·intro w'
      go_simp
      with_reducible rfl
     rotate_left
     ·simp only [Act.put, List.setIfInBounds_toArray, List.set_cons_zero, List.set_cons_succ, i64_w, i32_w]
      rfl
     refine pure_ (i := 2) (N := some 16) (v := ?_) (a' := ?_) #[true, true, true, false, false, false, false, false, false, false, false, false, false, false] rfl rfl (any_of HT_.out (by kernel_rfl)) (fun _ _ _ h => h) (Or.inl ⟨by rfl, ?_⟩) ?_ ?_
     rotate_left
     ·intro w'
      go_simp
      with_reducible rfl
     rotate_left
     ·simp only [Act.put, List.setIfInBounds_toArray, List.set_cons_zero, List.set_cons_succ, i64_w, i32_w]
      rfl
     refine pure_ (i := 3) (N := some 17) (v := ?_) (a' := ?_) #[true, true, true, true, false, false, false, false, false, false, false, false, false, false] rfl rfl (any_of HT_.out (by kernel_rfl)) (fun _ _ _ h => h) (Or.inl ⟨by rfl, ?_⟩) ?_ ?_
     rotate_left
     ·intro w'
      go_simp
      with_reducible rfl
     rotate_left
     ·simp only [Act.put, List.setIfInBounds_toArray, List.set_cons_zero, List.set_cons_succ, i64_w, i32_w]
      rfl
     refine pure_ (i := 4) (N := some 18) (v := ?_) (a' := ?_) #[true, true, true, true, true, false, false, false, false, false, false, false, false, false] rfl rfl (any_of HT_.out (by kernel_rfl)) (fun _ _ _ h => h) (Or.inl ⟨by rfl, ?_⟩) ?_ ?_
     rotate_left
     ·intro w'
      go_simp
      with_reducible rfl
     rotate_left
     ·simp only [Act.put, List.setIfInBounds_toArray, List.set_cons_zero, List.set_cons_succ, i64_w, i32_w]
      rfl
     refine pure_ (i := 7) (N := some 21) (v := ?_) (a' := ?_) #[true, true, true, true, true, false, false, true, false, false, false, false, false, false] rfl rfl (any_of HT_.out (by kernel_rfl)) (fun _ _ _ h => h) (Or.inl ⟨by rfl, ?_⟩) ?_ ?_
     rotate_left
     ·intro w'
      go_simp
      with_reducible rfl
     rotate_left
     ·simp only [Act.put, List.setIfInBounds_toArray, List.set_cons_zero, List.set_cons_succ, i64_w, i32_w]
      rfl
     refine pure_ (i := 8) (N := some 22) (v := ?_) (a' := ?_) #[true, true, true, true, true, false, false, true, true, false, false, false, false, false] rfl rfl (any_of HT_.out (by kernel_rfl)) (fun _ _ _ h => h) (Or.inl ⟨by rfl, ?_⟩) ?_ ?_
     rotate_left
     ·intro w'
      go_simp
      with_reducible rfl
     rotate_left
     ·simp only [Act.put, List.setIfInBounds_toArray, List.set_cons_zero, List.set_cons_succ, i64_w, i32_w]
      rfl
     refine pure_ (i := 9) (N := some 23) (v := ?_) (a' := ?_) #[true, true, true, true, true, false, false, true, true, true, false, false, false, false] rfl rfl (any_of HT_.out (by kernel_rfl)) (fun _ _ _ h => h) (Or.inl ⟨by rfl, ?_⟩) ?_ ?_
     rotate_left
     ·intro w'
      go_simp
      with_reducible rfl
     rotate_left
     ·simp only [Act.put, List.setIfInBounds_toArray, List.set_cons_zero, List.set_cons_succ, i64_w, i32_w]
      rfl
     refine pure_ (i := 10) (N := some 24) (v := ?_) (a' := ?_) #[true, true, true, true, true, false, false, true, true, true, true, false, false, false] rfl rfl (any_of HT_.out (by kernel_rfl)) (fun _ _ _ h => h) (Or.inl ⟨by rfl, ?_⟩) ?_ ?_
     rotate_left
     ·intro w'
      go_simp
      with_reducible rfl
     rotate_left
     ·simp only [Act.put, List.setIfInBounds_toArray, List.set_cons_zero, List.set_cons_succ, i64_w, i32_w]
      rfl
     refine take_ (i := 5) (N := some 19) (v := ?_) (a' := ?_) #[true, true, true, true, true, true, false, true, true, true, true, false, false, false] rfl rfl (take_ofW HT_.out HW_.out (by kernel_rfl)) (fun _ _ _ h => h) (Or.inl ⟨by rfl, ?_⟩) hHeld ?_ ?_
     rotate_left
     ·rintro w' ⟨s0, s1, s2, s3⟩
      go_simp
      with_reducible rfl
     rotate_left
     ·simp only [Act.put, List.setIfInBounds_toArray, List.set_cons_zero, List.set_cons_succ, i64_w, i32_w]
      rfl
     refine take_ (i := 11) (N := some 25) (v := ?_) (a' := ?_) #[true, true, true, true, true, true, false, true, true, true, true, true, false, false] rfl rfl (take_ofW HT_.out HW_.out (by kernel_rfl)) (fun _ _ _ h => h) (Or.inl ⟨by rfl, ?_⟩) hHeld ?_ ?_
     rotate_left
     ·rintro w' ⟨s0, s1, s2, s3⟩
      go_simp
      with_reducible rfl
     rotate_left
     ·simp only [Act.put, List.setIfInBounds_toArray, List.set_cons_zero, List.set_cons_succ, i64_w, i32_w]
      rfl
     refine one_ (i := 6) (N := some 20) #[true, true, true, true, true, true, true, true, true, true, true, true, false, false] rfl rfl (one_of HT_.out (by kernel_rfl)) (by decide) (fun K hK => ?_)
     refine goes_ Try.func103 (by kernel_rfl) rfl #[.slice Ao8 x5_1.length co8, .int .i64 ((rd_T49 l0 x6_1).f0)] (by rfl) rfl rfl (by (try simp only [List.map_toArray, List.map_cons, List.map_nil]); first | done | rfl | (simp only [List.length_drop, List.length_take]; rfl)) ?_
     with_reducible refine (papermillref04_with.calls k1 (fun k_ => some k_ = (.slice Ao8 x5_1.length co8 : Value).ownBlock) (.slice Ao8 x5_1.length co8) x5_1 ((rd_T49 l0 x6_1).f0) t81002 w _ ?side1 ?side2 A5.out).mono ?_
     (case side1 => repeat (first | exact HB.out | apply below_alloc | apply pw_below_drewN | apply below_drew1))
     (case side2 => exact Kd.R_tight rfl HO_5.out)
     rintro e w9 ⟨v81003, rfl, ho0, hb, hkp⟩
     refine ⟨_, rfl, ?_⟩
     have n0_ := Aside0.mk (Kd.R_mono (ok' := fun k_ => True) ho0 (fun k_ hk_ => trivial))
     have n1_ := Aside0.mk (hb)
     clear HB
     clear HO_5
     have HO81004 := n0_
     have HB := n1_
     clear n0_ n1_
     (try clear hb)
     (try clear hkp)
     (try clear ho0)
     obtain ⟨Ao10, co10, eo10⟩ := Kd.R_slice HO81004.out
     (first | subst eo10 | (injection eo10 with f1_ f2_ f3_; have f4_ := f1_.symm; have f5_ := f3_.symm; clear f1_ f2_ f3_; subst f4_; subst f5_))
     refine hK.out _ _ ⟨((HB.out.cell (World.block_lt_of_cell? w _ hw81001_0)).trans hw81001_0), ((HB.out.cell (World.block_lt_of_cell? w _ hw81001_1)).trans hw81001_1), ((HB.out.cell (World.block_lt_of_cell? w _ hw81005_0)).trans hw81005_0), ((HB.out.cell (World.block_lt_of_cell? w _ hw81005_1)).trans hw81005_1)⟩ (fun hHeld => ?_)
     clear hK K
     refine norm_ (a' := ?_) ?_ ?_
     rotate_left
     ·show Act.put _ (some 20) _ = _
      simp only [Act.put, List.setIfInBounds_toArray, List.set_cons_zero, List.set_cons_succ, i64_w, i32_w]
      rfl
     refine one_ (i := 12) (N := some 26) #[true, true, true, true, true, true, true, true, true, true, true, true, true, false] rfl rfl (one_of HT_.out (by kernel_rfl)) (by decide) (fun K hK => ?_)
     refine goes_ Try.func103 (by kernel_rfl) rfl #[.slice Ao10 t81002.length co10, .int .i64 ((rd_T49 l0 x6_1).f1)] (by rfl) rfl rfl (by (try simp only [List.map_toArray, List.map_cons, List.map_nil]); first | done | rfl | (simp only [List.length_drop, List.length_take]; rfl)) ?_
     with_reducible refine (papermillref04_with.calls k1 (fun k_ => some k_ = (.slice Ao10 t81002.length co10 : Value).ownBlock) (.slice Ao10 t81002.length co10) t81002 ((rd_T49 l0 x6_1).f1) t81006 w _ ?side1 ?side2 A6.out).mono ?_
     (case side1 => repeat (first | exact HB.out | apply below_alloc | apply pw_below_drewN | apply below_drew1))
     (case side2 => exact Kd.R_tight rfl HO81004.out)
     rintro e w11 ⟨v81007, rfl, ho0, hb, hkp⟩
     refine ⟨_, rfl, ?_⟩
     have n0_ := Aside0.mk (Kd.R_mono (ok' := fun k_ => True) ho0 (fun k_ hk_ => trivial))
     have n1_ := Aside0.mk (hb)
     clear HB
     clear HO81004
     have HO81008 := n0_
     have HB := n1_
     clear n0_ n1_
     (try clear hb)
     (try clear hkp)
     (try clear ho0)
     refine hK.out _ _ ⟨((HB.out.cell (World.block_lt_of_cell? w _ hw81001_0)).trans hw81001_0), ((HB.out.cell (World.block_lt_of_cell? w _ hw81001_1)).trans hw81001_1), ((HB.out.cell (World.block_lt_of_cell? w _ hw81005_0)).trans hw81005_0), ((HB.out.cell (World.block_lt_of_cell? w _ hw81005_1)).trans hw81005_1)⟩ (fun hHeld => ?_)
     clear hK K
     refine norm_ (a' := ?_) ?_ ?_
     rotate_left
     ·show Act.put _ (some 26) _ = _
      simp only [Act.put, List.setIfInBounds_toArray, List.set_cons_zero, List.set_cons_succ, i64_w, i32_w]
      rfl
     refine pure_ (i := 13) (N := some 5) (v := ?_) (a' := ?_) #[true, true, true, true, true, true, true, true, true, true, true, true, true, true] rfl rfl (any_of HT_.out (by kernel_rfl)) (fun _ _ _ h => h) (Or.inl ⟨by rfl, ?_⟩) ?_ ?_
     rotate_left
     ·intro w'
      go_simp
      with_reducible rfl
     rotate_left
     ·simp only [Act.put, List.setIfInBounds_toArray, List.set_cons_zero, List.set_cons_succ, i64_w, i32_w]
      rfl
     refine done_ (done_of HT_.out (by kernel_rfl)) ?_
     try go_wp2
     go_roundg k1
     case measure => have := HK1.out; omega
     case rel => exact ⟨(t81006), (wrap64 (x6_1 + 1)), (by first | rfl | (simp; done) | (simp [*]; done)), H', ⟨by have := HK1.out; omega⟩, ⟨HO81008.out⟩, ⟨by repeat (first | exact HB.out | apply below_alloc | apply pw_below_drewN | apply below_drew1)⟩⟩
    ·rw [if_neg c4] at H
     exact absurd H (by simp)
   ·rw [if_neg c3] at H
    have c3b0 : decide (x6_1 < (l0.length : Int)) = false := decide_eq_false c3
    clear c3
    have H' := Aside0.mk H
    clear H
    go_wp2
    go_loopg [5, 7] k1 (fun kq v5 v7 w' => ∃ (x5_2 : List Int) (x7_2 : Int), v7 = .int .i64 x7_2 ∧ Aside0 (papermillref04_ends.l1 kq l1 x5_2 x7_2 = some r) ∧ Aside0 (kq ≤ k1) ∧ Aside0 (Kd.R (Kd.int .i64) 3 w' w.heap.size (fun _ => True) v5 x5_2) ∧ Aside0 (Below w.heap.size w w'))
    case atStart => exact ⟨(x5_1), (0), (by first | rfl | (simp; done) | (simp [*]; done)), H', ⟨Nat.le_refl _⟩, ⟨HO_5.out⟩, ⟨by repeat (first | exact HB.out | apply below_alloc | apply pw_below_drewN | apply below_drew1)⟩⟩
    case round =>
     clear H'
     try clear c1
     try clear p2
     try clear c3
     try clear c3b0
     try clear c4
     try clear c4b0
     try clear p6
     try clear c8
     try clear p8
     try clear q8
     try clear hx8
     try clear c10
     try clear hx81001_0
     try clear hx81001_1
     try clear hx81005_0
     try clear hx81005_1
     try clear p2
     try clear p81001
     try clear p81005
     try clear q81001
     try clear q81005
     obtain ⟨x5_2, x7_2, rfl, HA, HK2, HO_5, HB⟩ := hrel
     cases gk with
     | zero => exact absurd HA.out (by simp [papermillref04_ends.l1])
     | succ k2 =>
      have H := HA.out
      clear HA
      simp only [papermillref04_ends.l1] at H
      by_cases c12 : x7_2 < (l1.length : Int)
      ·rw [if_pos c12] at H
       have c12b0 : decide (x7_2 < (l1.length : Int)) = true := decide_eq_true c12
       clear c12
       by_cases c13 : 0 ≤ x7_2
       ·rw [if_pos c13] at H
        have c13b0 : decide (0 ≤ x7_2) = true := decide_eq_true c13
        clear c13
        replace H := Option.bind_eq_some_iff.mp H
        obtain ⟨t81010, A140, H⟩ := H
        replace H : ((papermillref04_with.f k2 t81010 ((rd_T49 l1 x7_2).f1)).bind fun t81014 => (papermillref04_ends.l1 k2 l1 t81014 (wrap64 (x7_2 + 1)))) = some r := H
        have A14 := Aside0.mk A140
        clear A140
        replace H := Option.bind_eq_some_iff.mp H
        obtain ⟨t81014, A150, H⟩ := H
        replace H : (papermillref04_ends.l1 k2 l1 t81014 (wrap64 (x7_2 + 1))) = some r := H
        have A15 := Aside0.mk A150
        clear A150
        have H' := Aside0.mk H
        clear H
        try go_wp2
        have n0_ := Aside0.mk (Kd.R_drew HO_5.out)
        have n1_ := Aside0.mk (below_drew1 HB.out)
        clear HO_5
        clear HB
        have HO_5 := n0_
        have HB := n1_
        clear n0_ n1_
        have p81009 : 0 ≤ (x7_2 : Int) := of_decide_eq_true (by assumption)
        have q81009 : x7_2 < (l1.length : Int) := of_decide_eq_true (by assumption)
        obtain ⟨ad81009, e81009, hx81009_0, hx81009_1⟩ := at_T49 HR1.out x7_2 p81009 q81009
        have hw81009_1 := hx81009_1
        have hw81009_0 := hx81009_0
        cases e81009
        replace hx81009_0 := (HB.out.cell (World.block_lt_of_cell? w _ hx81009_0)).trans hx81009_0
        replace hx81009_1 := (HB.out.cell (World.block_lt_of_cell? w _ hx81009_1)).trans hx81009_1
        replace p81009 := eq_true p81009
        replace q81009 := eq_true q81009
        have p81013 : 0 ≤ (x7_2 : Int) := of_decide_eq_true (by assumption)
        have q81013 : x7_2 < (l1.length : Int) := of_decide_eq_true (by assumption)
        obtain ⟨ad81013, e81013, hx81013_0, hx81013_1⟩ := at_T49 HR1.out x7_2 p81013 q81013
        have hw81013_1 := hx81013_1
        have hw81013_0 := hx81013_0
        obtain rfl : ad81009 = ad81013 := (by injection e81013)
        replace hx81013_0 := (HB.out.cell (World.block_lt_of_cell? w _ hx81013_0)).trans hx81013_0
        replace hx81013_1 := (HB.out.cell (World.block_lt_of_cell? w _ hx81013_1)).trans hx81013_1
        replace p81013 := eq_true p81013
        replace q81013 := eq_true q81013
        obtain ⟨Ao17, co17, eo17⟩ := Kd.R_slice HO_5.out
        (first | subst eo17 | (injection eo17 with f1_ f2_ f3_; have f4_ := f1_.symm; have f5_ := f3_.symm; clear f1_ f2_ f3_; subst f4_; subst f5_))
        refine start_ (n := 14) (S := fun w' => w'.cell? (ad81009.add ((x7_2).toNat * 2)) = some (.int .i64 ((rd_T49 l1 x7_2).f0)) ∧ w'.cell? ⟨(ad81009.add ((x7_2).toNat * 2)).block, (ad81009.add ((x7_2).toNat * 2)).off + 1, none⟩ = some (.int .i64 ((rd_T49 l1 x7_2).f1)) ∧ w'.cell? (ad81009.add ((x7_2).toNat * 2)) = some (.int .i64 ((rd_T49 l1 x7_2).f0)) ∧ w'.cell? ⟨(ad81009.add ((x7_2).toNat * 2)).block, (ad81009.add ((x7_2).toNat * 2)).off + 1, none⟩ = some (.int .i64 ((rd_T49 l1 x7_2).f1))) (ds := []) #[false, false, false, false, false, false, false, false, false, false, false, false, false, false] (by kernel_rfl) rfl rfl ⟨((HB.out.cell (World.block_lt_of_cell? w _ hw81009_0)).trans hw81009_0), ((HB.out.cell (World.block_lt_of_cell? w _ hw81009_1)).trans hw81009_1), ((HB.out.cell (World.block_lt_of_cell? w _ hw81013_0)).trans hw81013_0), ((HB.out.cell (World.block_lt_of_cell? w _ hw81013_1)).trans hw81013_1)⟩ (fun hHeld => ?_); refine with_tabW papermillref04_ends.tab9 papermillref04_ends.bits9 (fun HT_ HW_ => ?_)
        generalize wr.drew = w16 at HO_5 HB hx81009_0 hx81009_1 hx81013_0 hx81013_1 hHeld ⊢
        refine pure_ (i := 0) (N := some 33) (v := ?_) (a' := ?_) #[true, false, false, false, false, false, false, false, false, false, false, false, false, false] rfl rfl (any_of HT_.out (by kernel_rfl)) (fun _ _ _ h => h) (Or.inl ⟨by rfl, ?_⟩) ?_ ?_
        rotate_left
        ·intro w'
         go_simp
         with_reducible rfl
        rotate_left
        ·simp only [Act.put, List.setIfInBounds_toArray, List.set_cons_zero, List.set_cons_succ, i64_w, i32_w]
         rfl
        refine pure_ (i := 1) (N := some 34) (v := ?_) (a' := ?_) #[true, true, false, false, false, false, false, false, false, false, false, false, false, false] rfl rfl (any_of HT_.out (by kernel_rfl)) (fun _ _ _ h => h) (Or.inl ⟨by rfl, ?_⟩) ?_ ?_
        rotate_left
        ·intro w'
         go_simp
         with_reducible rfl
        rotate_left
        ·simp only [Act.put, List.setIfInBounds_toArray, List.set_cons_zero, List.set_cons_succ, i64_w, i32_w]
         rfl
        refine pure_ (i := 2) (N := some 35) (v := ?_) (a' := ?_) #[true, true, true, false, false, false, false, false, false, false, false, false, false, false] rfl rfl (any_of HT_.out (by kernel_rfl)) (fun _ _ _ h => h) (Or.inl ⟨by rfl, ?_⟩) ?_ ?_
        rotate_left
        ·intro w'
         go_simp
         with_reducible rfl
        rotate_left
        ·simp only [Act.put, List.setIfInBounds_toArray, List.set_cons_zero, List.set_cons_succ, i64_w, i32_w]
         rfl
        refine pure_ (i := 3) (N := some 36) (v := ?_) (a' := ?_) #[true, true, true, true, false, false, false, false, false, false, false, false, false, false] rfl rfl (any_of HT_.out (by kernel_rfl)) (fun _ _ _ h => h) (Or.inl ⟨by rfl, ?_⟩) ?_ ?_
        rotate_left
        ·intro w'
         go_simp
         with_reducible rfl
        rotate_left
        ·simp only [Act.put, List.setIfInBounds_toArray, List.set_cons_zero, List.set_cons_succ, i64_w, i32_w]
         rfl
        refine pure_ (i := 4) (N := some 37) (v := ?_) (a' := ?_) #[true, true, true, true, true, false, false, false, false, false, false, false, false, false] rfl rfl (any_of HT_.out (by kernel_rfl)) (fun _ _ _ h => h) (Or.inl ⟨by rfl, ?_⟩) ?_ ?_
        rotate_left
        ·intro w'
         go_simp
         with_reducible rfl
        rotate_left
        ·simp only [Act.put, List.setIfInBounds_toArray, List.set_cons_zero, List.set_cons_succ, i64_w, i32_w]
         rfl
        refine pure_ (i := 7) (N := some 40) (v := ?_) (a' := ?_) #[true, true, true, true, true, false, false, true, false, false, false, false, false, false] rfl rfl (any_of HT_.out (by kernel_rfl)) (fun _ _ _ h => h) (Or.inl ⟨by rfl, ?_⟩) ?_ ?_
        rotate_left
        ·intro w'
         go_simp
         with_reducible rfl
        rotate_left
        ·simp only [Act.put, List.setIfInBounds_toArray, List.set_cons_zero, List.set_cons_succ, i64_w, i32_w]
         rfl
        refine pure_ (i := 8) (N := some 41) (v := ?_) (a' := ?_) #[true, true, true, true, true, false, false, true, true, false, false, false, false, false] rfl rfl (any_of HT_.out (by kernel_rfl)) (fun _ _ _ h => h) (Or.inl ⟨by rfl, ?_⟩) ?_ ?_
        rotate_left
        ·intro w'
         go_simp
         with_reducible rfl
        rotate_left
        ·simp only [Act.put, List.setIfInBounds_toArray, List.set_cons_zero, List.set_cons_succ, i64_w, i32_w]
         rfl
        refine pure_ (i := 9) (N := some 42) (v := ?_) (a' := ?_) #[true, true, true, true, true, false, false, true, true, true, false, false, false, false] rfl rfl (any_of HT_.out (by kernel_rfl)) (fun _ _ _ h => h) (Or.inl ⟨by rfl, ?_⟩) ?_ ?_
        rotate_left
        ·intro w'
         go_simp
         with_reducible rfl
        rotate_left
        ·simp only [Act.put, List.setIfInBounds_toArray, List.set_cons_zero, List.set_cons_succ, i64_w, i32_w]
         rfl
        refine pure_ (i := 10) (N := some 43) (v := ?_) (a' := ?_) #[true, true, true, true, true, false, false, true, true, true, true, false, false, false] rfl rfl (any_of HT_.out (by kernel_rfl)) (fun _ _ _ h => h) (Or.inl ⟨by rfl, ?_⟩) ?_ ?_
        rotate_left
        ·intro w'
         go_simp
         with_reducible rfl
        rotate_left
        ·simp only [Act.put, List.setIfInBounds_toArray, List.set_cons_zero, List.set_cons_succ, i64_w, i32_w]
         rfl
        refine take_ (i := 5) (N := some 38) (v := ?_) (a' := ?_) #[true, true, true, true, true, true, false, true, true, true, true, false, false, false] rfl rfl (take_ofW HT_.out HW_.out (by kernel_rfl)) (fun _ _ _ h => h) (Or.inl ⟨by rfl, ?_⟩) hHeld ?_ ?_
        rotate_left
        ·rintro w' ⟨s0, s1, s2, s3⟩
         go_simp
         with_reducible rfl
        rotate_left
        ·simp only [Act.put, List.setIfInBounds_toArray, List.set_cons_zero, List.set_cons_succ, i64_w, i32_w]
         rfl
        refine take_ (i := 11) (N := some 44) (v := ?_) (a' := ?_) #[true, true, true, true, true, true, false, true, true, true, true, true, false, false] rfl rfl (take_ofW HT_.out HW_.out (by kernel_rfl)) (fun _ _ _ h => h) (Or.inl ⟨by rfl, ?_⟩) hHeld ?_ ?_
        rotate_left
        ·rintro w' ⟨s0, s1, s2, s3⟩
         go_simp
         with_reducible rfl
        rotate_left
        ·simp only [Act.put, List.setIfInBounds_toArray, List.set_cons_zero, List.set_cons_succ, i64_w, i32_w]
         rfl
        refine one_ (i := 6) (N := some 39) #[true, true, true, true, true, true, true, true, true, true, true, true, false, false] rfl rfl (one_of HT_.out (by kernel_rfl)) (by decide) (fun K hK => ?_)
        refine goes_ Try.func103 (by kernel_rfl) rfl #[.slice Ao17 x5_2.length co17, .int .i64 ((rd_T49 l1 x7_2).f0)] (by rfl) rfl rfl (by (try simp only [List.map_toArray, List.map_cons, List.map_nil]); first | done | rfl | (simp only [List.length_drop, List.length_take]; rfl)) ?_
        with_reducible refine (papermillref04_with.calls k2 (fun k_ => some k_ = (.slice Ao17 x5_2.length co17 : Value).ownBlock) (.slice Ao17 x5_2.length co17) x5_2 ((rd_T49 l1 x7_2).f0) t81010 w _ ?side1 ?side2 A14.out).mono ?_
        (case side1 => repeat (first | exact HB.out | apply below_alloc | apply pw_below_drewN | apply below_drew1))
        (case side2 => exact Kd.R_tight rfl HO_5.out)
        rintro e w18 ⟨v81011, rfl, ho0, hb, hkp⟩
        refine ⟨_, rfl, ?_⟩
        have n0_ := Aside0.mk (Kd.R_mono (ok' := fun k_ => True) ho0 (fun k_ hk_ => trivial))
        have n1_ := Aside0.mk (hb)
        clear HB
        clear HO_5
        have HO81012 := n0_
        have HB := n1_
        clear n0_ n1_
        (try clear hb)
        (try clear hkp)
        (try clear ho0)
        obtain ⟨Ao19, co19, eo19⟩ := Kd.R_slice HO81012.out
        (first | subst eo19 | (injection eo19 with f1_ f2_ f3_; have f4_ := f1_.symm; have f5_ := f3_.symm; clear f1_ f2_ f3_; subst f4_; subst f5_))
        refine hK.out _ _ ⟨((HB.out.cell (World.block_lt_of_cell? w _ hw81009_0)).trans hw81009_0), ((HB.out.cell (World.block_lt_of_cell? w _ hw81009_1)).trans hw81009_1), ((HB.out.cell (World.block_lt_of_cell? w _ hw81013_0)).trans hw81013_0), ((HB.out.cell (World.block_lt_of_cell? w _ hw81013_1)).trans hw81013_1)⟩ (fun hHeld => ?_)
        clear hK K
        refine norm_ (a' := ?_) ?_ ?_
        rotate_left
        ·show Act.put _ (some 39) _ = _
         simp only [Act.put, List.setIfInBounds_toArray, List.set_cons_zero, List.set_cons_succ, i64_w, i32_w]
         rfl
        refine one_ (i := 12) (N := some 45) #[true, true, true, true, true, true, true, true, true, true, true, true, true, false] rfl rfl (one_of HT_.out (by kernel_rfl)) (by decide) (fun K hK => ?_)
        refine goes_ Try.func103 (by kernel_rfl) rfl #[.slice Ao19 t81010.length co19, .int .i64 ((rd_T49 l1 x7_2).f1)] (by rfl) rfl rfl (by (try simp only [List.map_toArray, List.map_cons, List.map_nil]); first | done | rfl | (simp only [List.length_drop, List.length_take]; rfl)) ?_
        with_reducible refine (papermillref04_with.calls k2 (fun k_ => some k_ = (.slice Ao19 t81010.length co19 : Value).ownBlock) (.slice Ao19 t81010.length co19) t81010 ((rd_T49 l1 x7_2).f1) t81014 w _ ?side1 ?side2 A15.out).mono ?_
        (case side1 => repeat (first | exact HB.out | apply below_alloc | apply pw_below_drewN | apply below_drew1))
        (case side2 => exact Kd.R_tight rfl HO81012.out)
        rintro e w20 ⟨v81015, rfl, ho0, hb, hkp⟩
        refine ⟨_, rfl, ?_⟩
        have n0_ := Aside0.mk (Kd.R_mono (ok' := fun k_ => True) ho0 (fun k_ hk_ => trivial))
        have n1_ := Aside0.mk (hb)
        clear HB
        clear HO81012
        have HO81016 := n0_
        have HB := n1_
        clear n0_ n1_
        (try clear hb)
        (try clear hkp)
        (try clear ho0)
        refine hK.out _ _ ⟨((HB.out.cell (World.block_lt_of_cell? w _ hw81009_0)).trans hw81009_0), ((HB.out.cell (World.block_lt_of_cell? w _ hw81009_1)).trans hw81009_1), ((HB.out.cell (World.block_lt_of_cell? w _ hw81013_0)).trans hw81013_0), ((HB.out.cell (World.block_lt_of_cell? w _ hw81013_1)).trans hw81013_1)⟩ (fun hHeld => ?_)
        clear hK K
        refine norm_ (a' := ?_) ?_ ?_
        rotate_left
        ·show Act.put _ (some 45) _ = _
         simp only [Act.put, List.setIfInBounds_toArray, List.set_cons_zero, List.set_cons_succ, i64_w, i32_w]
         rfl
        refine pure_ (i := 13) (N := some 5) (v := ?_) (a' := ?_) #[true, true, true, true, true, true, true, true, true, true, true, true, true, true] rfl rfl (any_of HT_.out (by kernel_rfl)) (fun _ _ _ h => h) (Or.inl ⟨by rfl, ?_⟩) ?_ ?_
        rotate_left
        ·intro w'
         go_simp
         with_reducible rfl
        rotate_left
        ·simp only [Act.put, List.setIfInBounds_toArray, List.set_cons_zero, List.set_cons_succ, i64_w, i32_w]
         rfl
        refine done_ (done_of HT_.out (by kernel_rfl)) ?_
        try go_wp2
        go_roundg k2
        case measure => have := HK1.out; have := HK2.out; omega
        case rel => exact ⟨(t81014), (wrap64 (x7_2 + 1)), (by first | rfl | (simp; done) | (simp [*]; done)), H', ⟨by have := HK1.out; have := HK2.out; omega⟩, ⟨HO81016.out⟩, ⟨by repeat (first | exact HB.out | apply below_alloc | apply pw_below_drewN | apply below_drew1)⟩⟩
       ·rw [if_neg c13] at H
        exact absurd H (by simp)
      ·rw [if_neg c12] at H
       have c12b0 : decide (x7_2 < (l1.length : Int)) = false := decide_eq_false c12
       clear c12
       obtain rfl := Option.some.inj H
       go_wp2
       go_ret
       exact ⟨_, by first | rfl | (simp [errW_none, errW_some] <;> rfl) | (simp [*, errW_none, errW_some] <;> rfl), by exact HO_5.out, by repeat (first | exact HB.out | apply below_alloc | apply pw_below_drewN | apply below_drew1)⟩

end Go.Proofs.Ytjkakgkiikjdmaa.G

namespace Go.Proofs.Ytjkakgkiikjdmaa.G
open Go.RowKit Go.Proofs.YtjkakgkiikjdmaaW.PrintWords Go.Proofs.YtjkakgkiikjdmaaW.PrintLast Go.Proofs.YtjkakgkiikjdmaaW.PrintMore
attribute [local go_sem] max2_int min2_int max_two min_two max_three min_three max_four min_four   -- for this text's walks alone
set_option linter.unusedVariables false
set_option linter.unusedSimpArgs false

def papermillref04_Has.l0 : Nat → List (S49) → Int → Int → Option (Bool)
 | 0, _, _, _ => none
 | k + 1, x0, x1, x5 => if x5 < (x0.length : Int) then (if 0 ≤ x5 then (if ((rd_T49 x0 x5).f0) ≤ x1 then (if x1 < ((rd_T49 x0 x5).f1) then (some true) else (papermillref04_Has.l0 k x0 x1 (wrap64 (x5 + 1)))) else (papermillref04_Has.l0 k x0 x1 (wrap64 (x5 + 1)))) else (none)) else (some false)
def papermillref04_Has.f (k : Nat) (l0 : List (S49)) (a1 : Int) : Option (Bool) := papermillref04_Has.l0 k l0 a1 0
theorem papermillref04_Has.mono_l : ∀ k, (∀ y0 y1 y2, LeO (papermillref04_Has.l0 k y0 y1 y2) (papermillref04_Has.l0 (k + 1) y0 y1 y2))
 | 0 => fun _ _ _ r h => by simp [papermillref04_Has.l0] at h
 | k + 1 => by
  have ih0 := papermillref04_Has.mono_l k
  ·intro y0 y1 y2
   unfold papermillref04_Has.l0
   repeat' first
   | (with_reducible exact ih0 _ _ _)
   | (with_reducible exact LeO.refl _)
   | (with_reducible exact LeO.none _)
   | (with_reducible refine LeO.ite ?_ ?_)
   | (with_reducible refine LeO.bind ?_ (fun _ => ?_))
   | exact ih0 _ _ _
   | exact LeO.none _
   | refine LeO.ite ?_ ?_
   | refine LeO.bind ?_ (fun _ => ?_)
theorem papermillref04_Has.mono : ∀ a0 a1 k, LeO (papermillref04_Has.f k a0 a1) (papermillref04_Has.f (k + 1) a0 a1) := by
 intro a0 a1 k
 have ih0 := papermillref04_Has.mono_l k
 unfold papermillref04_Has.f
 repeat' first
   | (with_reducible exact ih0 _ _ _)
   | (with_reducible exact LeO.refl _)
   | (with_reducible exact LeO.none _)
   | (with_reducible refine LeO.ite ?_ ?_)
   | (with_reducible refine LeO.bind ?_ (fun _ => ?_))
   | exact ih0 _ _ _
   | exact LeO.none _
   | refine LeO.ite ?_ ?_
   | refine LeO.bind ?_ (fun _ => ?_)
set_option maxHeartbeats 8000000 in
set_option maxRecDepth 100000 in
theorem papermillref04_Has.calls (k : Nat) (A0 : Option Addr) (c0 : Nat) (l0 : List (S49)) (a1 : Int) (r : Bool) (w : World) (hr0 : Kd.C k49 w A0 l0.length l0) (hc0 : l0.length ≤ c0) (h : papermillref04_Has.f k l0 a1 = some r) :
  Calls Try.prog 81 #[.slice A0 l0.length c0, .int .i64 a1] w fun e w' => e = .returned (.bool r) ∧ Drawn0 w w' := by
 have HR0 := Aside0.mk hr0
 have HC0 := Aside0.mk hc0
 clear hr0 hc0
 have H : (papermillref04_Has.l0 k l0 a1 0) = some r := h
 clear h
 have H' := Aside0.mk H
 clear H
 go_enter Try.func81, Try.ntmps81
 go_wp2
 go_loopg [5] k (fun kq v5 w' => ∃ (x5_1 : Int), v5 = .int .i64 x5_1 ∧ Aside0 (papermillref04_Has.l0 kq l0 a1 x5_1 = some r) ∧ Aside0 (kq ≤ k) ∧ Drawn0 w w')
 case atStart => exact ⟨(0), (by first | rfl | (simp; done) | (simp [*]; done)), H', ⟨Nat.le_refl _⟩, by repeat (first | exact Drawn0.refl _ | apply Drawn0.step)⟩
 case round =>
  clear H'
  try clear p2
  obtain ⟨x5_1, rfl, HA, HK1, ⟨m1, rfl⟩⟩ := hrel
  cases gk with
  | zero => exact absurd HA.out (by simp [papermillref04_Has.l0])
  | succ k1 =>
   have H := HA.out
   clear HA
   simp only [papermillref04_Has.l0] at H
   by_cases c3 : x5_1 < (l0.length : Int)
   ·rw [if_pos c3] at H
    have c3b0 : decide (x5_1 < (l0.length : Int)) = true := decide_eq_true c3
    clear c3
    by_cases c4 : 0 ≤ x5_1
    ·rw [if_pos c4] at H
     have c4b0 : decide (0 ≤ x5_1) = true := decide_eq_true c4
     clear c4
     by_cases c5 : ((rd_T49 l0 x5_1).f0) ≤ a1
     ·rw [if_pos c5] at H
      have c5b0 : decide (((rd_T49 l0 x5_1).f0) ≤ a1) = true := decide_eq_true c5
      clear c5
      by_cases c6 : a1 < ((rd_T49 l0 x5_1).f1)
      ·rw [if_pos c6] at H
       have c6b0 : decide (a1 < ((rd_T49 l0 x5_1).f1)) = true := decide_eq_true c6
       clear c6
       obtain rfl := Option.some.inj H
       have p82001 : 0 ≤ (x5_1 : Int) := of_decide_eq_true (by assumption)
       have q82001 : x5_1 < (l0.length : Int) := of_decide_eq_true (by assumption)
       obtain ⟨ad82001, e82001, hx82001_0, hx82001_1⟩ := at_T49 HR0.out x5_1 p82001 q82001
       cases e82001
       replace p82001 := eq_true p82001
       replace q82001 := eq_true q82001
       have p82002 : 0 ≤ (x5_1 : Int) := of_decide_eq_true (by assumption)
       have q82002 : x5_1 < (l0.length : Int) := of_decide_eq_true (by assumption)
       obtain ⟨ad82002, e82002, hx82002_0, hx82002_1⟩ := at_T49 HR0.out x5_1 p82002 q82002
       obtain rfl : ad82001 = ad82002 := (by injection e82002)
       replace p82002 := eq_true p82002
       replace q82002 := eq_true q82002
       go_wp2
       go_ret
       exact ⟨by first | rfl | (simp; done) | (simp [*]; done), by repeat (first | exact Drawn0.refl _ | apply Drawn0.step)⟩
      ·rw [if_neg c6] at H
       have c6b0 : decide (a1 < ((rd_T49 l0 x5_1).f1)) = false := decide_eq_false c6
       clear c6
       have H' := Aside0.mk H
       clear H
       have p82001 : 0 ≤ (x5_1 : Int) := of_decide_eq_true (by assumption)
       have q82001 : x5_1 < (l0.length : Int) := of_decide_eq_true (by assumption)
       obtain ⟨ad82001, e82001, hx82001_0, hx82001_1⟩ := at_T49 HR0.out x5_1 p82001 q82001
       cases e82001
       replace p82001 := eq_true p82001
       replace q82001 := eq_true q82001
       have p82002 : 0 ≤ (x5_1 : Int) := of_decide_eq_true (by assumption)
       have q82002 : x5_1 < (l0.length : Int) := of_decide_eq_true (by assumption)
       obtain ⟨ad82002, e82002, hx82002_0, hx82002_1⟩ := at_T49 HR0.out x5_1 p82002 q82002
       obtain rfl : ad82001 = ad82002 := (by injection e82002)
       replace p82002 := eq_true p82002
       replace q82002 := eq_true q82002
       go_wp2
       go_roundg k1
       case measure => have := HK1.out; omega
       case rel => exact ⟨(wrap64 (x5_1 + 1)), (by first | rfl | (simp; done) | (simp [*]; done)), H', ⟨by have := HK1.out; omega⟩, by repeat (first | exact Drawn0.refl _ | apply Drawn0.step)⟩
     ·rw [if_neg c5] at H
      have c5b0 : decide (((rd_T49 l0 x5_1).f0) ≤ a1) = false := decide_eq_false c5
      clear c5
      have H' := Aside0.mk H
      clear H
      have p82001 : 0 ≤ (x5_1 : Int) := of_decide_eq_true (by assumption)
      have q82001 : x5_1 < (l0.length : Int) := of_decide_eq_true (by assumption)
      obtain ⟨ad82001, e82001, hx82001_0, hx82001_1⟩ := at_T49 HR0.out x5_1 p82001 q82001
      cases e82001
      replace p82001 := eq_true p82001
      replace q82001 := eq_true q82001
      go_wp2
      go_roundg k1
      case measure => have := HK1.out; omega
      case rel => exact ⟨(wrap64 (x5_1 + 1)), (by first | rfl | (simp; done) | (simp [*]; done)), H', ⟨by have := HK1.out; omega⟩, by repeat (first | exact Drawn0.refl _ | apply Drawn0.step)⟩
    ·rw [if_neg c4] at H
     exact absurd H (by simp)
   ·rw [if_neg c3] at H
    have c3b0 : decide (x5_1 < (l0.length : Int)) = false := decide_eq_false c3
    clear c3
    obtain rfl := Option.some.inj H
    go_wp2
    go_ret
    exact ⟨by first | rfl | (simp; done) | (simp [*]; done), by repeat (first | exact Drawn0.refl _ | apply Drawn0.step)⟩

end Go.Proofs.Ytjkakgkiikjdmaa.G

namespace Go.Proofs.Ytjkakgkiikjdmaa.G
open Go.RowKit Go.Proofs.YtjkakgkiikjdmaaW.PrintWords Go.Proofs.YtjkakgkiikjdmaaW.PrintLast Go.Proofs.YtjkakgkiikjdmaaW.PrintMore
attribute [local go_sem] max2_int min2_int max_two min_two max_three min_three max_four min_four   -- for this text's walks alone
set_option linter.unusedVariables false
set_option linter.unusedSimpArgs false

mutual
def papermillref04_combine.l0 : Nat → List (S49) → List (S49) → Int → List Int → List (S49) → Int → Option ((List (S49)))
 | 0, _, _, _, _, _, _ => none
 | k + 1, x0, x1, x2, x7, x8, x9 => if (wrap64 (x9 + 1)) < (x7.length : Int) then (if 0 ≤ x9 then (if x9 < (x7.length : Int) then ((papermillref04_Has.f k x0 (rd x7 x9)).bind fun t74005 => ((papermillref04_Has.f k x1 (rd x7 x9)).bind fun t74007 => (if x2 = 0 then (if t74005 = true then (if x2 = 1 then (if t74007 = true then (if x2 = 2 then (papermillref04_combine.j1 k x0 x1 x2 x7 x8 x9 t74007) else (papermillref04_combine.j1 k x0 x1 x2 x7 x8 x9 false)) else (papermillref04_combine.j1 k x0 x1 x2 x7 x8 x9 true)) else (if x2 = 2 then (papermillref04_combine.j1 k x0 x1 x2 x7 x8 x9 t74007) else (papermillref04_combine.j1 k x0 x1 x2 x7 x8 x9 false))) else (if t74007 = true then (if x2 = 1 then (papermillref04_combine.j1 k x0 x1 x2 x7 x8 x9 true) else (if x2 = 2 then (papermillref04_combine.j1 k x0 x1 x2 x7 x8 x9 true) else (papermillref04_combine.j1 k x0 x1 x2 x7 x8 x9 false))) else (papermillref04_combine.j1 k x0 x1 x2 x7 x8 x9 true))) else (if x2 = 1 then (if t74005 = true then (if t74007 = true then (if x2 = 2 then (papermillref04_combine.j1 k x0 x1 x2 x7 x8 x9 t74007) else (papermillref04_combine.j1 k x0 x1 x2 x7 x8 x9 false)) else (papermillref04_combine.j1 k x0 x1 x2 x7 x8 x9 true)) else (papermillref04_combine.j1 k x0 x1 x2 x7 x8 x9 true)) else (if x2 = 2 then (if t74005 = true then (papermillref04_combine.j1 k x0 x1 x2 x7 x8 x9 t74007) else (papermillref04_combine.j1 k x0 x1 x2 x7 x8 x9 true)) else (papermillref04_combine.j1 k x0 x1 x2 x7 x8 x9 false)))))) else (none)) else (none)) else (some x8)
def papermillref04_combine.j1 : Nat → List (S49) → List (S49) → Int → List Int → List (S49) → Int → Bool → Option ((List (S49)))
 | 0, _, _, _, _, _, _, _ => none
 | k + 1, x0, x1, x2, x7, x8, x9, x66 => if x66 = true then (papermillref04_combine.l0 k x0 x1 x2 x7 x8 (wrap64 (x9 + 1))) else (if (wrap64 ((x8.length : Int) - 1)) ≥ 0 then (if 0 ≤ (wrap64 ((x8.length : Int) - 1)) then (if (wrap64 ((x8.length : Int) - 1)) < (x8.length : Int) then (if 0 ≤ x9 then (if x9 < (x7.length : Int) then (if ((rd_T49 x8 (wrap64 ((x8.length : Int) - 1))).f1) = (rd x7 x9) then (if 0 ≤ (wrap64 (x9 + 1)) then (if (wrap64 (x9 + 1)) < (x7.length : Int) then (papermillref04_combine.l0 k x0 x1 x2 x7 (x8.set ((wrap64 ((x8.length : Int) - 1)) : Int).toNat (⟨(rd_T49 x8 (wrap64 ((x8.length : Int) - 1))).f0, rd x7 (wrap64 (x9 + 1))⟩ : S49)) (wrap64 (x9 + 1))) else (none)) else (none)) else (if 0 ≤ (wrap64 (x9 + 1)) then (if (wrap64 (x9 + 1)) < (x7.length : Int) then (if x8.length < 8796093022208 then (papermillref04_combine.l0 k x0 x1 x2 x7 (x8 ++ [(⟨rd x7 x9, rd x7 (wrap64 (x9 + 1))⟩ : S49)]) (wrap64 (x9 + 1))) else (none)) else (none)) else (none))) else (none)) else (none)) else (none)) else (none)) else (if 0 ≤ x9 then (if x9 < (x7.length : Int) then (if 0 ≤ (wrap64 (x9 + 1)) then (if (wrap64 (x9 + 1)) < (x7.length : Int) then (if x8.length < 8796093022208 then (papermillref04_combine.l0 k x0 x1 x2 x7 (x8 ++ [(⟨rd x7 x9, rd x7 (wrap64 (x9 + 1))⟩ : S49)]) (wrap64 (x9 + 1))) else (none)) else (none)) else (none)) else (none)) else (none)))
end
def papermillref04_combine.f (k : Nat) (l0 : List (S49)) (l1 : List (S49)) (a2 : Int) : Option ((List (S49))) := (papermillref04_ends.f k l0 l1).bind fun t74001 => (papermillref04_combine.l0 k l0 l1 a2 t74001 ([] : List (S49)) 0)
theorem papermillref04_combine.mono_l : ∀ k, (∀ y0 y1 y2 y3 y4 y5, LeO (papermillref04_combine.l0 k y0 y1 y2 y3 y4 y5) (papermillref04_combine.l0 (k + 1) y0 y1 y2 y3 y4 y5)) ∧ (∀ y0 y1 y2 y3 y4 y5 y6, LeO (papermillref04_combine.j1 k y0 y1 y2 y3 y4 y5 y6) (papermillref04_combine.j1 (k + 1) y0 y1 y2 y3 y4 y5 y6))
 | 0 => ⟨fun _ _ _ _ _ _ r h => by simp [papermillref04_combine.l0] at h, fun _ _ _ _ _ _ _ r h => by simp [papermillref04_combine.j1] at h⟩
 | k + 1 => by
  obtain ⟨ih0, ih1⟩ := papermillref04_combine.mono_l k
  refine ⟨?_, ?_⟩
  ·intro y0 y1 y2 y3 y4 y5
   unfold papermillref04_combine.l0
   repeat' first
   | (with_reducible exact ih0 _ _ _ _ _ _)
   | (with_reducible exact ih1 _ _ _ _ _ _ _)
   | (with_reducible exact papermillref04_Has.mono _ _ _)
   | (with_reducible exact papermillref04_ends.mono _ _ _)
   | (with_reducible exact LeO.refl _)
   | (with_reducible exact LeO.none _)
   | (with_reducible refine LeO.ite ?_ ?_)
   | (with_reducible refine LeO.bind ?_ (fun _ => ?_))
   | exact ih0 _ _ _ _ _ _
   | exact ih1 _ _ _ _ _ _ _
   | exact papermillref04_Has.mono _ _ _
   | exact papermillref04_ends.mono _ _ _
   | exact LeO.none _
   | refine LeO.ite ?_ ?_
   | refine LeO.bind ?_ (fun _ => ?_)
  ·intro y0 y1 y2 y3 y4 y5 y6
   unfold papermillref04_combine.j1
   repeat' first
   | (with_reducible exact ih0 _ _ _ _ _ _)
   | (with_reducible exact ih1 _ _ _ _ _ _ _)
   | (with_reducible exact papermillref04_Has.mono _ _ _)
   | (with_reducible exact papermillref04_ends.mono _ _ _)
   | (with_reducible exact LeO.refl _)
   | (with_reducible exact LeO.none _)
   | (with_reducible refine LeO.ite ?_ ?_)
   | (with_reducible refine LeO.bind ?_ (fun _ => ?_))
   | exact ih0 _ _ _ _ _ _
   | exact ih1 _ _ _ _ _ _ _
   | exact papermillref04_Has.mono _ _ _
   | exact papermillref04_ends.mono _ _ _
   | exact LeO.none _
   | refine LeO.ite ?_ ?_
   | refine LeO.bind ?_ (fun _ => ?_)
theorem papermillref04_combine.mono : ∀ a0 a1 a2 k, LeO (papermillref04_combine.f k a0 a1 a2) (papermillref04_combine.f (k + 1) a0 a1 a2) := by
 intro a0 a1 a2 k
 obtain ⟨ih0, ih1⟩ := papermillref04_combine.mono_l k
 unfold papermillref04_combine.f
 repeat' first
   | (with_reducible exact ih0 _ _ _ _ _ _)
   | (with_reducible exact ih1 _ _ _ _ _ _ _)
   | (with_reducible exact papermillref04_Has.mono _ _ _)
   | (with_reducible exact papermillref04_ends.mono _ _ _)
   | (with_reducible exact LeO.refl _)
   | (with_reducible exact LeO.none _)
   | (with_reducible refine LeO.ite ?_ ?_)
   | (with_reducible refine LeO.bind ?_ (fun _ => ?_))
   | exact ih0 _ _ _ _ _ _
   | exact ih1 _ _ _ _ _ _ _
   | exact papermillref04_Has.mono _ _ _
   | exact papermillref04_ends.mono _ _ _
   | exact LeO.none _
   | refine LeO.ite ?_ ?_
   | refine LeO.bind ?_ (fun _ => ?_)
def papermillref04_combine.T6 : Bool × List (List Nat × List Nat) := (true, [([], []), ([], []), ([], []), ([1, 2], [1, 2]), ([3], [3]), ([0, 4], [0, 4]), ([], []), ([], []), ([], []), ([7, 8], [7, 8]), ([9], [9]), ([6, 10, 5], [6, 10]), ([5, 11, 0, 1, 2, 3, 4, 5], [5]), ([11, 12, 0, 1, 2, 3, 4, 5, 6, 7, 8, 9, 10, 11, 12], [11])])
def papermillref04_combine.B6 : List Nat := [0, 0, 0, 6, 14, 31, 0, 0, 0, 384, 896, 2047, 4095, 8191]
theorem papermillref04_combine.tab6 : rtab .any (opsOf Try.f73 6) = papermillref04_combine.T6 := by kernel_rfl
theorem papermillref04_combine.bits6 : waitsOk papermillref04_combine.T6.2 papermillref04_combine.B6 = true := by kernel_rfl
def papermillref04_combine.T9 : Bool × List (List Nat × List Nat) := (true, [([], []), ([0], [0]), ([1], [1]), ([2], [2]), ([2], [2]), ([3, 4, 2], [2, 3, 4]), ([5, 2], [2, 5]), ([6, 2], [2, 6]), ([2], [2]), ([2], [2]), ([8, 9, 2], [2, 8, 9]), ([10, 2], [2, 10]), ([7, 11, 2], [2, 7, 11]), ([2, 12], [2, 12])])
def papermillref04_combine.B9 : List Nat := [0, 1, 3, 7, 7, 31, 63, 127, 7, 7, 775, 1799, 4095, 8191]
theorem papermillref04_combine.tab9 : rtab .any (opsOf Try.f73 9) = papermillref04_combine.T9 := by kernel_rfl
theorem papermillref04_combine.bits9 : waitsOk papermillref04_combine.T9.2 papermillref04_combine.B9 = true := by kernel_rfl
def papermillref04_combine.T11 : Bool × List (List Nat × List Nat) := (true, [([], []), ([], []), ([], []), ([1, 2], [1, 2]), ([3], [3]), ([], []), ([], []), ([6], [6]), ([5, 7], [5, 7]), ([8], [8]), ([4, 9], [4, 9]), ([10], [10]), ([0, 11], [0, 11]), ([12, 12, 0, 1, 2, 3, 4, 5, 6, 7, 8, 9, 10, 11, 12], [0, 12])])
def papermillref04_combine.B11 : List Nat := [0, 0, 0, 6, 14, 0, 0, 64, 224, 480, 1022, 2046, 4095, 8191]
theorem papermillref04_combine.tab11 : rtab .any (opsOf Try.f73 11) = papermillref04_combine.T11 := by kernel_rfl
theorem papermillref04_combine.bits11 : waitsOk papermillref04_combine.T11.2 papermillref04_combine.B11 = true := by kernel_rfl
set_option maxHeartbeats 8000000 in
set_option maxRecDepth 100000 in
theorem papermillref04_combine.calls (k : Nat) (A0 : Option Addr) (c0 : Nat) (l0 : List (S49)) (A1 : Option Addr) (c1 : Nat) (l1 : List (S49)) (a2 : Int) (r : List (S49)) (w : World) (hr0 : Kd.C k49 w A0 l0.length l0) (hc0 : l0.length ≤ c0) (hr1 : Kd.C k49 w A1 l1.length l1) (hc1 : l1.length ≤ c1) (h : papermillref04_combine.f k l0 l1 a2 = some r) :
  Calls Try.prog 73 #[.slice A0 l0.length c0, .slice A1 l1.length c1, .int .i64 a2] w fun e w' => ∃ v0_ : Value, e = .returned (v0_) ∧ Kd.R k49 49 w' w.heap.size (fun _ => True) v0_ r ∧ Below w.heap.size w w' := by
 have hu49 := Try.underlying49
 have HR0 := Aside0.mk hr0
 have HC0 := Aside0.mk hc0
 clear hr0 hc0
 have HR1 := Aside0.mk hr1
 have HC1 := Aside0.mk hc1
 clear hr1 hc1
 have HB := Aside0.mk (Below.refl w.heap.size w)
 have H : ((papermillref04_ends.f k l0 l1).bind fun t74001 => (papermillref04_combine.l0 k l0 l1 a2 t74001 ([] : List (S49)) 0)) = some r := h
 clear h
 replace H := Option.bind_eq_some_iff.mp H
 obtain ⟨t74001, A40, H⟩ := H
 replace H : (papermillref04_combine.l0 k l0 l1 a2 t74001 ([] : List (S49)) 0) = some r := H
 have A4 := Aside0.mk A40
 clear A40
 have H' := Aside0.mk H
 clear H
 go_enter Try.func73, Try.ntmps73
 go_wp2_with (first | ((with_reducible refine gate_callee (f := 80) rfl ?_); refine goesL_ (some 15) rfl rfl Try.func80 (by kernel_rfl) rfl #[.slice A0 l0.length c0, .slice A1 l1.length c1] rfl (by (try simp only [List.map_toArray, List.map_cons, List.map_nil]); first | done | rfl | (simp only [List.length_drop, List.length_take]; rfl)) ?_; (with_reducible refine (papermillref04_ends.calls k _ _ l0 _ _ l1 t74001 _ ?side1 ?side2 ?side3 ?side4 A4.out).mono ?_); (case side1 => exact HR0.out); (case side2 => exact HC0.out); (case side3 => exact HR1.out); (case side4 => exact HC1.out); rintro e w5 ⟨v74002, rfl, ho0, hb⟩; refine ⟨_, rfl, ?_⟩; have n0_ := Aside0.mk (Kd.R_lower ho0 (below_size (by repeat (first | exact HB.out | apply below_alloc | apply pw_below_drewN | apply below_drew1)))); have n1_ := Aside0.mk (below_step (by repeat (first | exact HB.out | apply below_alloc | apply pw_below_drewN | apply below_drew1)) hb); clear HB; have HO74003 := n0_; have HB := n1_; clear n0_ n1_; (try clear hb); (try clear hb2); (try clear hk); (try clear hi); (try clear ho0)))
 go_loopg [8, 9] k (fun kq v8 v9 w' => ∃ (x8_1 : List (S49)) (x9_1 : Int), v9 = .int .i64 x9_1 ∧ Aside0 (papermillref04_combine.l0 kq l0 l1 a2 t74001 x8_1 x9_1 = some r) ∧ Aside0 (kq ≤ k) ∧ Aside0 (Kd.R (Kd.int .i64) 3 w' w.heap.size (fun _ => True) v74002 t74001) ∧ Aside0 (Kd.R k49 49 w' w.heap.size (fun _ => True) v8 x8_1) ∧ Aside0 (Below w.heap.size w w'))
 case atStart => exact ⟨(([] : List (S49))), (0), (by first | rfl | (simp; done) | (simp [*]; done)), H', ⟨Nat.le_refl _⟩, ⟨HO74003.out⟩, ⟨by first | exact Kd.R_nil _ _ _ _ _ | exact Kd.N_nil _ _ _ _ _ | exact Kd.V_nil _ _ _ _ _ | exact Kd.Q_nil _ _ _ _ _ | exact Kd.S_nil _ _ _ _ _⟩, ⟨by repeat (first | exact HB.out | apply below_alloc | apply pw_below_drewN | apply below_drew1)⟩⟩
 case round =>
  clear H'
  try clear c1
  try clear p2
  obtain ⟨x8_1, x9_1, rfl, HA, HK1, HO_7, HO_8, HB⟩ := hrel
  cases gk with
  | zero => exact absurd HA.out (by simp [papermillref04_combine.l0])
  | succ k1 =>
   have H := HA.out
   clear HA
   simp only [papermillref04_combine.l0] at H
   by_cases c6 : (wrap64 (x9_1 + 1)) < (t74001.length : Int)
   ·rw [if_pos c6] at H
    have c6b0 : decide ((wrap64 (x9_1 + 1)) < (t74001.length : Int)) = true := decide_eq_true c6
    clear c6
    by_cases c7 : 0 ≤ x9_1
    ·rw [if_pos c7] at H
     have c7b0 : decide (0 ≤ x9_1) = true := decide_eq_true c7
     clear c7
     by_cases c8 : x9_1 < (t74001.length : Int)
     ·rw [if_pos c8] at H
      have c8b0 : decide (x9_1 < (t74001.length : Int)) = true := decide_eq_true c8
      clear c8
      replace H := Option.bind_eq_some_iff.mp H
      obtain ⟨t74005, A90, H⟩ := H
      replace H : ((papermillref04_Has.f k1 l1 (rd t74001 x9_1)).bind fun t74007 => (if a2 = 0 then (if t74005 = true then (if a2 = 1 then (if t74007 = true then (if a2 = 2 then (papermillref04_combine.j1 k1 l0 l1 a2 t74001 x8_1 x9_1 t74007) else (papermillref04_combine.j1 k1 l0 l1 a2 t74001 x8_1 x9_1 false)) else (papermillref04_combine.j1 k1 l0 l1 a2 t74001 x8_1 x9_1 true)) else (if a2 = 2 then (papermillref04_combine.j1 k1 l0 l1 a2 t74001 x8_1 x9_1 t74007) else (papermillref04_combine.j1 k1 l0 l1 a2 t74001 x8_1 x9_1 false))) else (if t74007 = true then (if a2 = 1 then (papermillref04_combine.j1 k1 l0 l1 a2 t74001 x8_1 x9_1 true) else (if a2 = 2 then (papermillref04_combine.j1 k1 l0 l1 a2 t74001 x8_1 x9_1 true) else (papermillref04_combine.j1 k1 l0 l1 a2 t74001 x8_1 x9_1 false))) else (papermillref04_combine.j1 k1 l0 l1 a2 t74001 x8_1 x9_1 true))) else (if a2 = 1 then (if t74005 = true then (if t74007 = true then (if a2 = 2 then (papermillref04_combine.j1 k1 l0 l1 a2 t74001 x8_1 x9_1 t74007) else (papermillref04_combine.j1 k1 l0 l1 a2 t74001 x8_1 x9_1 false)) else (papermillref04_combine.j1 k1 l0 l1 a2 t74001 x8_1 x9_1 true)) else (papermillref04_combine.j1 k1 l0 l1 a2 t74001 x8_1 x9_1 true)) else (if a2 = 2 then (if t74005 = true then (papermillref04_combine.j1 k1 l0 l1 a2 t74001 x8_1 x9_1 t74007) else (papermillref04_combine.j1 k1 l0 l1 a2 t74001 x8_1 x9_1 true)) else (papermillref04_combine.j1 k1 l0 l1 a2 t74001 x8_1 x9_1 false))))) = some r := H
      have A9 := Aside0.mk A90
      clear A90
      replace H := Option.bind_eq_some_iff.mp H
      obtain ⟨t74007, A100, H⟩ := H
      replace H : (if a2 = 0 then (if t74005 = true then (if a2 = 1 then (if t74007 = true then (if a2 = 2 then (papermillref04_combine.j1 k1 l0 l1 a2 t74001 x8_1 x9_1 t74007) else (papermillref04_combine.j1 k1 l0 l1 a2 t74001 x8_1 x9_1 false)) else (papermillref04_combine.j1 k1 l0 l1 a2 t74001 x8_1 x9_1 true)) else (if a2 = 2 then (papermillref04_combine.j1 k1 l0 l1 a2 t74001 x8_1 x9_1 t74007) else (papermillref04_combine.j1 k1 l0 l1 a2 t74001 x8_1 x9_1 false))) else (if t74007 = true then (if a2 = 1 then (papermillref04_combine.j1 k1 l0 l1 a2 t74001 x8_1 x9_1 true) else (if a2 = 2 then (papermillref04_combine.j1 k1 l0 l1 a2 t74001 x8_1 x9_1 true) else (papermillref04_combine.j1 k1 l0 l1 a2 t74001 x8_1 x9_1 false))) else (papermillref04_combine.j1 k1 l0 l1 a2 t74001 x8_1 x9_1 true))) else (if a2 = 1 then (if t74005 = true then (if t74007 = true then (if a2 = 2 then (papermillref04_combine.j1 k1 l0 l1 a2 t74001 x8_1 x9_1 t74007) else (papermillref04_combine.j1 k1 l0 l1 a2 t74001 x8_1 x9_1 false)) else (papermillref04_combine.j1 k1 l0 l1 a2 t74001 x8_1 x9_1 true)) else (papermillref04_combine.j1 k1 l0 l1 a2 t74001 x8_1 x9_1 true)) else (if a2 = 2 then (if t74005 = true then (papermillref04_combine.j1 k1 l0 l1 a2 t74001 x8_1 x9_1 t74007) else (papermillref04_combine.j1 k1 l0 l1 a2 t74001 x8_1 x9_1 true)) else (papermillref04_combine.j1 k1 l0 l1 a2 t74001 x8_1 x9_1 false)))) = some r := H
      have A10 := Aside0.mk A100
      clear A100
      have HC11 := Aside0.mk H
      clear H
      obtain ⟨Ao12, co12, eo12⟩ := Kd.R_slice HO_7.out
      subst eo12
      try go_wp2
      have n0_ := Aside0.mk (Kd.R_drew HO_7.out)
      have n1_ := Aside0.mk (Kd.R_drew HO_8.out)
      have n2_ := Aside0.mk (below_drew1 HB.out)
      clear HO_7
      clear HO_8
      clear HB
      have HO_7 := n0_
      have HO_8 := n1_
      have HB := n2_
      clear n0_ n1_ n2_
      have p74004 : 0 ≤ (x9_1 : Int) := of_decide_eq_true (by assumption)
      have q74004 : x9_1 < (t74001.length : Int) := of_decide_eq_true (by assumption)
      obtain ⟨ad74004, e74004, hx74004_0⟩ := Kd.at_int (Kd.R_reads' HO_7.out).2.2 x9_1 p74004 q74004
      cases e74004
      replace p74004 := eq_true p74004
      replace q74004 := eq_true q74004
      have p74006 : 0 ≤ (x9_1 : Int) := of_decide_eq_true (by assumption)
      have q74006 : x9_1 < (t74001.length : Int) := of_decide_eq_true (by assumption)
      obtain ⟨ad74006, e74006, hx74006_0⟩ := Kd.at_int (Kd.R_reads' HO_7.out).2.2 x9_1 p74006 q74006
      obtain rfl : ad74004 = ad74006 := (by injection e74006)
      replace p74006 := eq_true p74006
      replace q74006 := eq_true q74006
      refine start_ (n := 14) (S := fun w' => w'.cell? (ad74004.add (x9_1).toNat) = some (.int .i64 (rd t74001 x9_1)) ∧ w'.cell? (ad74004.add (x9_1).toNat) = some (.int .i64 (rd t74001 x9_1))) (ds := []) #[false, false, false, false, false, false, false, false, false, false, false, false, false, false] (by kernel_rfl) rfl rfl ⟨hx74004_0, hx74006_0⟩ (fun hHeld => ?_); refine with_tabW papermillref04_combine.tab6 papermillref04_combine.bits6 (fun HT_ HW_ => ?_)
      generalize wr.drew = w13 at HO_7 HO_8 HB hx74004_0 hx74006_0 hHeld ⊢
      refine pure_ (i := 0) (N := some 23) (v := ?_) (a' := ?_) #[true, false, false, false, false, false, false, false, false, false, false, false, false, false] rfl rfl (any_of HT_.out (by kernel_rfl)) (fun _ _ _ h => h) (Or.inl ⟨by rfl, ?_⟩) ?_ ?_
      rotate_left
      ·intro w'
       go_simp
       with_reducible rfl
      rotate_left
      ·simp only [Act.put, List.setIfInBounds_toArray, List.set_cons_zero, List.set_cons_succ, i64_w, i32_w]
       rfl
      refine pure_ (i := 1) (N := some 24) (v := ?_) (a' := ?_) #[true, true, false, false, false, false, false, false, false, false, false, false, false, false] rfl rfl (any_of HT_.out (by kernel_rfl)) (fun _ _ _ h => h) (Or.inl ⟨by rfl, ?_⟩) ?_ ?_
      rotate_left
      ·intro w'
       go_simp
       with_reducible rfl
      rotate_left
      ·simp only [Act.put, List.setIfInBounds_toArray, List.set_cons_zero, List.set_cons_succ, i64_w, i32_w]
       rfl
      refine pure_ (i := 2) (N := some 25) (v := ?_) (a' := ?_) #[true, true, true, false, false, false, false, false, false, false, false, false, false, false] rfl rfl (any_of HT_.out (by kernel_rfl)) (fun _ _ _ h => h) (Or.inl ⟨by rfl, ?_⟩) ?_ ?_
      rotate_left
      ·intro w'
       go_simp
       with_reducible rfl
      rotate_left
      ·simp only [Act.put, List.setIfInBounds_toArray, List.set_cons_zero, List.set_cons_succ, i64_w, i32_w]
       rfl
      refine pure_ (i := 3) (N := some 26) (v := ?_) (a' := ?_) #[true, true, true, true, false, false, false, false, false, false, false, false, false, false] rfl rfl (any_of HT_.out (by kernel_rfl)) (fun _ _ _ h => h) (Or.inl ⟨by rfl, ?_⟩) ?_ ?_
      rotate_left
      ·intro w'
       go_simp
       with_reducible rfl
      rotate_left
      ·simp only [Act.put, List.setIfInBounds_toArray, List.set_cons_zero, List.set_cons_succ, i64_w, i32_w]
       rfl
      refine pure_ (i := 6) (N := some 29) (v := ?_) (a' := ?_) #[true, true, true, true, false, false, true, false, false, false, false, false, false, false] rfl rfl (any_of HT_.out (by kernel_rfl)) (fun _ _ _ h => h) (Or.inl ⟨by rfl, ?_⟩) ?_ ?_
      rotate_left
      ·intro w'
       go_simp
       with_reducible rfl
      rotate_left
      ·simp only [Act.put, List.setIfInBounds_toArray, List.set_cons_zero, List.set_cons_succ, i64_w, i32_w]
       rfl
      refine pure_ (i := 7) (N := some 30) (v := ?_) (a' := ?_) #[true, true, true, true, false, false, true, true, false, false, false, false, false, false] rfl rfl (any_of HT_.out (by kernel_rfl)) (fun _ _ _ h => h) (Or.inl ⟨by rfl, ?_⟩) ?_ ?_
      rotate_left
      ·intro w'
       go_simp
       with_reducible rfl
      rotate_left
      ·simp only [Act.put, List.setIfInBounds_toArray, List.set_cons_zero, List.set_cons_succ, i64_w, i32_w]
       rfl
      refine pure_ (i := 8) (N := some 31) (v := ?_) (a' := ?_) #[true, true, true, true, false, false, true, true, true, false, false, false, false, false] rfl rfl (any_of HT_.out (by kernel_rfl)) (fun _ _ _ h => h) (Or.inl ⟨by rfl, ?_⟩) ?_ ?_
      rotate_left
      ·intro w'
       go_simp
       with_reducible rfl
      rotate_left
      ·simp only [Act.put, List.setIfInBounds_toArray, List.set_cons_zero, List.set_cons_succ, i64_w, i32_w]
       rfl
      refine pure_ (i := 9) (N := some 32) (v := ?_) (a' := ?_) #[true, true, true, true, false, false, true, true, true, true, false, false, false, false] rfl rfl (any_of HT_.out (by kernel_rfl)) (fun _ _ _ h => h) (Or.inl ⟨by rfl, ?_⟩) ?_ ?_
      rotate_left
      ·intro w'
       go_simp
       with_reducible rfl
      rotate_left
      ·simp only [Act.put, List.setIfInBounds_toArray, List.set_cons_zero, List.set_cons_succ, i64_w, i32_w]
       rfl
      refine take_ (i := 4) (N := some 27) (v := ?_) (a' := ?_) #[true, true, true, true, true, false, true, true, true, true, false, false, false, false] rfl rfl (take_ofW HT_.out HW_.out (by kernel_rfl)) (fun _ _ _ h => h) (Or.inl ⟨by rfl, ?_⟩) hHeld ?_ ?_
      rotate_left
      ·rintro w' ⟨s0, s1⟩
       go_simp
       with_reducible rfl
      rotate_left
      ·simp only [Act.put, List.setIfInBounds_toArray, List.set_cons_zero, List.set_cons_succ, i64_w, i32_w]
       rfl
      refine take_ (i := 10) (N := some 33) (v := ?_) (a' := ?_) #[true, true, true, true, true, false, true, true, true, true, true, false, false, false] rfl rfl (take_ofW HT_.out HW_.out (by kernel_rfl)) (fun _ _ _ h => h) (Or.inl ⟨by rfl, ?_⟩) hHeld ?_ ?_
      rotate_left
      ·rintro w' ⟨s0, s1⟩
       go_simp
       with_reducible rfl
      rotate_left
      ·simp only [Act.put, List.setIfInBounds_toArray, List.set_cons_zero, List.set_cons_succ, i64_w, i32_w]
       rfl
      refine one_ (i := 5) (N := some 28) #[true, true, true, true, true, true, true, true, true, true, true, false, false, false] rfl rfl (one_of HT_.out (by kernel_rfl)) (by decide) (fun K hK => ?_)
      refine goes_ Try.func81 (by kernel_rfl) rfl #[.slice A0 l0.length c0, .int .i64 (rd t74001 x9_1)] (by rfl) rfl rfl (by (try simp only [List.map_toArray, List.map_cons, List.map_nil]); first | done | rfl | (simp only [List.length_drop, List.length_take]; rfl)) ?_
      with_reducible refine (papermillref04_Has.calls k1 _ _ l0 (rd t74001 x9_1) t74005 _ ?side1 ?side2 A9.out).mono ?_
      (case side1 => exact (Kd.C_below HR0.out HB.out))
      (case side2 => exact HC0.out)
      rintro e w' ⟨rfl, ⟨nd, rfl⟩⟩
      refine ⟨_, rfl, ?_⟩
      refine hK.out _ _ ⟨hHeld.1, hHeld.2⟩ (fun hHeld => ?_)
      clear hK K
      refine norm_ (a' := ?_) ?_ ?_
      rotate_left
      ·show Act.put _ (some 28) _ = _
       simp only [Act.put, List.setIfInBounds_toArray, List.set_cons_zero, List.set_cons_succ, i64_w, i32_w]
       rfl
      refine one_ (i := 11) (N := some 34) #[true, true, true, true, true, true, true, true, true, true, true, true, false, false] rfl rfl (one_of HT_.out (by kernel_rfl)) (by decide) (fun K hK => ?_)
      refine goes_ Try.func81 (by kernel_rfl) rfl #[.slice A1 l1.length c1, .int .i64 (rd t74001 x9_1)] (by rfl) rfl rfl (by (try simp only [List.map_toArray, List.map_cons, List.map_nil]); first | done | rfl | (simp only [List.length_drop, List.length_take]; rfl)) ?_
      with_reducible refine (papermillref04_Has.calls k1 _ _ l1 (rd t74001 x9_1) t74007 _ ?side1 ?side2 A10.out).mono ?_
      (case side1 => repeat (first | exact (Kd.C_below HR1.out (by repeat (first | exact HB.out | apply below_alloc | apply pw_below_drewN | apply below_drew1))) | (with_reducible refine Kd.C_alloc ?_ _) | (with_reducible refine Kd.C_drewN ?_ _) | (with_reducible refine Kd.C_drew ?_)))
      (case side2 => exact HC1.out)
      rintro e w' ⟨rfl, ⟨nd, rfl⟩⟩
      refine ⟨_, rfl, ?_⟩
      refine hK.out _ _ ⟨hHeld.1, hHeld.2⟩ (fun hHeld => ?_)
      clear hK K
      refine norm_ (a' := ?_) ?_ ?_
      rotate_left
      ·show Act.put _ (some 34) _ = _
       simp only [Act.put, List.setIfInBounds_toArray, List.set_cons_zero, List.set_cons_succ, i64_w, i32_w]
       rfl
      refine pure_ (i := 12) (N := some 10) (v := ?_) (a' := ?_) #[true, true, true, true, true, true, true, true, true, true, true, true, true, false] rfl rfl (any_of HT_.out (by kernel_rfl)) (fun _ _ _ h => h) (Or.inl ⟨by rfl, ?_⟩) ?_ ?_
      rotate_left
      ·intro w'
       go_simp
       with_reducible rfl
      rotate_left
      ·simp only [Act.put, List.setIfInBounds_toArray, List.set_cons_zero, List.set_cons_succ, i64_w, i32_w]
       rfl
      refine pure_ (i := 13) (N := some 11) (v := ?_) (a' := ?_) #[true, true, true, true, true, true, true, true, true, true, true, true, true, true] rfl rfl (any_of HT_.out (by kernel_rfl)) (fun _ _ _ h => h) (Or.inl ⟨by rfl, ?_⟩) ?_ ?_
      rotate_left
      ·intro w'
       go_simp
       with_reducible rfl
      rotate_left
      ·simp only [Act.put, List.setIfInBounds_toArray, List.set_cons_zero, List.set_cons_succ, i64_w, i32_w]
       rfl
      refine done_ (done_of HT_.out (by kernel_rfl)) ?_
      go_upto_region 7 with (fail)
      go_cut [66] (fun v66 wc => ∃ (kq : Nat) (x66_10 : Bool), v66 = .bool x66_10 ∧ Aside0 (papermillref04_combine.j1 kq l0 l1 a2 t74001 x8_1 x9_1 x66_10 = some r) ∧ Aside0 (kq ≤ k1) ∧ Aside0 (Kd.R (Kd.int .i64) 3 wc w.heap.size (fun _ => True) (.slice (some ad74004) t74001.length co12) t74001) ∧ Aside0 (Kd.R k49 49 wc w.heap.size (fun _ => True) u8 x8_1) ∧ Aside0 (Below w.heap.size w wc))
      case first =>
       have H := HC11.out
       clear HC11
       by_cases c14 : a2 = 0
       ·rw [if_pos c14] at H
        have c14b0 : (a2 == 0) = true := beq_iff_eq.mpr c14
        have c14b1 : (a2 != 0) = false := bne_eq_false_iff_eq.mpr c14
        clear c14
        (first | rw [c14b0] | (simp only [i64_w, i32_w]; rw [c14b0]) | skip)
        by_cases c15 : t74005 = true
        ·subst c15
         have H1 : (if a2 = 1 then (if t74007 = true then (if a2 = 2 then (papermillref04_combine.j1 k1 l0 l1 a2 t74001 x8_1 x9_1 t74007) else (papermillref04_combine.j1 k1 l0 l1 a2 t74001 x8_1 x9_1 false)) else (papermillref04_combine.j1 k1 l0 l1 a2 t74001 x8_1 x9_1 true)) else (if a2 = 2 then (papermillref04_combine.j1 k1 l0 l1 a2 t74001 x8_1 x9_1 t74007) else (papermillref04_combine.j1 k1 l0 l1 a2 t74001 x8_1 x9_1 false))) = some r := by rw [if_pos rfl] at H; exact H
         clear H
         have H := H1
         clear H1
         by_cases c16 : a2 = 1
         ·rw [if_pos c16] at H
          have c16b0 : (a2 == 1) = true := beq_iff_eq.mpr c16
          have c16b1 : (a2 != 1) = false := bne_eq_false_iff_eq.mpr c16
          clear c16
          by_cases c17 : t74007 = true
          ·subst c17
           have H1 : (if a2 = 2 then (papermillref04_combine.j1 k1 l0 l1 a2 t74001 x8_1 x9_1 true) else (papermillref04_combine.j1 k1 l0 l1 a2 t74001 x8_1 x9_1 false)) = some r := by rw [if_pos rfl] at H; exact H
           clear H
           have H := H1
           clear H1
           by_cases c18 : a2 = 2
           ·rw [if_pos c18] at H
            have c18b0 : (a2 == 2) = true := beq_iff_eq.mpr c18
            have c18b1 : (a2 != 2) = false := bne_eq_false_iff_eq.mpr c18
            clear c18
            have H' := Aside0.mk H
            clear H
            go_wp2
            go_meet
            case rel => exact ⟨_, (true), (by first | rfl | (simp; done) | (simp [*]; done)), H', ⟨by have := HK1.out; first | omega | exact Nat.le_refl _⟩, ⟨HO_7.out⟩, ⟨HO_8.out⟩, ⟨by repeat (first | exact HB.out | apply below_alloc | apply pw_below_drewN | apply below_drew1)⟩⟩
           ·rw [if_neg c18] at H
            have c18b0 : (a2 == 2) = false := beq_eq_false_iff_ne.mpr c18
            have c18b1 : (a2 != 2) = true := bne_iff_ne.mpr c18
            have H' := Aside0.mk H
            clear H
            go_wp2
            go_meet
            case rel => exact ⟨_, (false), (by first | rfl | (simp; done) | (simp [*]; done)), H', ⟨by have := HK1.out; first | omega | exact Nat.le_refl _⟩, ⟨HO_7.out⟩, ⟨HO_8.out⟩, ⟨by repeat (first | exact HB.out | apply below_alloc | apply pw_below_drewN | apply below_drew1)⟩⟩
          ·replace c17 := Bool.eq_false_iff.mpr c17
           subst c17
           have H1 : (papermillref04_combine.j1 k1 l0 l1 a2 t74001 x8_1 x9_1 true) = some r := by rw [if_neg (show ¬ (false = true) by decide)] at H; first | exact H | simpa using H
           clear H
           have H := H1
           clear H1
           have H' := Aside0.mk H
           clear H
           go_wp2
           go_meet
           case rel => exact ⟨_, (true), (by first | rfl | (simp; done) | (simp [*]; done)), H', ⟨by have := HK1.out; first | omega | exact Nat.le_refl _⟩, ⟨HO_7.out⟩, ⟨HO_8.out⟩, ⟨by repeat (first | exact HB.out | apply below_alloc | apply pw_below_drewN | apply below_drew1)⟩⟩
         ·rw [if_neg c16] at H
          have c16b0 : (a2 == 1) = false := beq_eq_false_iff_ne.mpr c16
          have c16b1 : (a2 != 1) = true := bne_iff_ne.mpr c16
          by_cases c19 : a2 = 2
          ·rw [if_pos c19] at H
           have c19b0 : (a2 == 2) = true := beq_iff_eq.mpr c19
           have c19b1 : (a2 != 2) = false := bne_eq_false_iff_eq.mpr c19
           clear c19
           have H' := Aside0.mk H
           clear H
           go_wp2
           go_meet
           case rel => exact ⟨_, (t74007), (by first | rfl | (simp; done) | (simp [*]; done)), H', ⟨by have := HK1.out; first | omega | exact Nat.le_refl _⟩, ⟨HO_7.out⟩, ⟨HO_8.out⟩, ⟨by repeat (first | exact HB.out | apply below_alloc | apply pw_below_drewN | apply below_drew1)⟩⟩
          ·rw [if_neg c19] at H
           have c19b0 : (a2 == 2) = false := beq_eq_false_iff_ne.mpr c19
           have c19b1 : (a2 != 2) = true := bne_iff_ne.mpr c19
           have H' := Aside0.mk H
           clear H
           go_wp2
           go_meet
           case rel => exact ⟨_, (false), (by first | rfl | (simp; done) | (simp [*]; done)), H', ⟨by have := HK1.out; first | omega | exact Nat.le_refl _⟩, ⟨HO_7.out⟩, ⟨HO_8.out⟩, ⟨by repeat (first | exact HB.out | apply below_alloc | apply pw_below_drewN | apply below_drew1)⟩⟩
        ·replace c15 := Bool.eq_false_iff.mpr c15
         subst c15
         have H1 : (if t74007 = true then (if a2 = 1 then (papermillref04_combine.j1 k1 l0 l1 a2 t74001 x8_1 x9_1 true) else (if a2 = 2 then (papermillref04_combine.j1 k1 l0 l1 a2 t74001 x8_1 x9_1 true) else (papermillref04_combine.j1 k1 l0 l1 a2 t74001 x8_1 x9_1 false))) else (papermillref04_combine.j1 k1 l0 l1 a2 t74001 x8_1 x9_1 true)) = some r := by rw [if_neg (show ¬ (false = true) by decide)] at H; first | exact H | simpa using H
         clear H
         have H := H1
         clear H1
         by_cases c20 : t74007 = true
         ·subst c20
          have H1 : (if a2 = 1 then (papermillref04_combine.j1 k1 l0 l1 a2 t74001 x8_1 x9_1 true) else (if a2 = 2 then (papermillref04_combine.j1 k1 l0 l1 a2 t74001 x8_1 x9_1 true) else (papermillref04_combine.j1 k1 l0 l1 a2 t74001 x8_1 x9_1 false))) = some r := by rw [if_pos rfl] at H; exact H
          clear H
          have H := H1
          clear H1
          by_cases c21 : a2 = 1
          ·rw [if_pos c21] at H
           have c21b0 : (a2 == 1) = true := beq_iff_eq.mpr c21
           have c21b1 : (a2 != 1) = false := bne_eq_false_iff_eq.mpr c21
           clear c21
           have H' := Aside0.mk H
           clear H
           go_wp2
           go_meet
           case rel => exact ⟨_, (true), (by first | rfl | (simp; done) | (simp [*]; done)), H', ⟨by have := HK1.out; first | omega | exact Nat.le_refl _⟩, ⟨HO_7.out⟩, ⟨HO_8.out⟩, ⟨by repeat (first | exact HB.out | apply below_alloc | apply pw_below_drewN | apply below_drew1)⟩⟩
          ·rw [if_neg c21] at H
           have c21b0 : (a2 == 1) = false := beq_eq_false_iff_ne.mpr c21
           have c21b1 : (a2 != 1) = true := bne_iff_ne.mpr c21
           by_cases c22 : a2 = 2
           ·rw [if_pos c22] at H
            have c22b0 : (a2 == 2) = true := beq_iff_eq.mpr c22
            have c22b1 : (a2 != 2) = false := bne_eq_false_iff_eq.mpr c22
            clear c22
            have H' := Aside0.mk H
            clear H
            go_wp2
            go_meet
            case rel => exact ⟨_, (true), (by first | rfl | (simp; done) | (simp [*]; done)), H', ⟨by have := HK1.out; first | omega | exact Nat.le_refl _⟩, ⟨HO_7.out⟩, ⟨HO_8.out⟩, ⟨by repeat (first | exact HB.out | apply below_alloc | apply pw_below_drewN | apply below_drew1)⟩⟩
           ·rw [if_neg c22] at H
            have c22b0 : (a2 == 2) = false := beq_eq_false_iff_ne.mpr c22
            have c22b1 : (a2 != 2) = true := bne_iff_ne.mpr c22
            have H' := Aside0.mk H
            clear H
            go_wp2
            go_meet
            case rel => exact ⟨_, (false), (by first | rfl | (simp; done) | (simp [*]; done)), H', ⟨by have := HK1.out; first | omega | exact Nat.le_refl _⟩, ⟨HO_7.out⟩, ⟨HO_8.out⟩, ⟨by repeat (first | exact HB.out | apply below_alloc | apply pw_below_drewN | apply below_drew1)⟩⟩
         ·replace c20 := Bool.eq_false_iff.mpr c20
          subst c20
          have H1 : (papermillref04_combine.j1 k1 l0 l1 a2 t74001 x8_1 x9_1 true) = some r := by rw [if_neg (show ¬ (false = true) by decide)] at H; first | exact H | simpa using H
          clear H
          have H := H1
          clear H1
          have H' := Aside0.mk H
          clear H
          go_wp2
          go_meet
          case rel => exact ⟨_, (true), (by first | rfl | (simp; done) | (simp [*]; done)), H', ⟨by have := HK1.out; first | omega | exact Nat.le_refl _⟩, ⟨HO_7.out⟩, ⟨HO_8.out⟩, ⟨by repeat (first | exact HB.out | apply below_alloc | apply pw_below_drewN | apply below_drew1)⟩⟩
       ·rw [if_neg c14] at H
        have c14b0 : (a2 == 0) = false := beq_eq_false_iff_ne.mpr c14
        have c14b1 : (a2 != 0) = true := bne_iff_ne.mpr c14
        (first | rw [c14b0] | (simp only [i64_w, i32_w]; rw [c14b0]) | skip)
        by_cases c23 : a2 = 1
        ·rw [if_pos c23] at H
         have c23b0 : (a2 == 1) = true := beq_iff_eq.mpr c23
         have c23b1 : (a2 != 1) = false := bne_eq_false_iff_eq.mpr c23
         clear c23
         by_cases c24 : t74005 = true
         ·subst c24
          have H1 : (if t74007 = true then (if a2 = 2 then (papermillref04_combine.j1 k1 l0 l1 a2 t74001 x8_1 x9_1 t74007) else (papermillref04_combine.j1 k1 l0 l1 a2 t74001 x8_1 x9_1 false)) else (papermillref04_combine.j1 k1 l0 l1 a2 t74001 x8_1 x9_1 true)) = some r := by rw [if_pos rfl] at H; exact H
          clear H
          have H := H1
          clear H1
          by_cases c25 : t74007 = true
          ·subst c25
           have H1 : (if a2 = 2 then (papermillref04_combine.j1 k1 l0 l1 a2 t74001 x8_1 x9_1 true) else (papermillref04_combine.j1 k1 l0 l1 a2 t74001 x8_1 x9_1 false)) = some r := by rw [if_pos rfl] at H; exact H
           clear H
           have H := H1
           clear H1
           by_cases c26 : a2 = 2
           ·rw [if_pos c26] at H
            have c26b0 : (a2 == 2) = true := beq_iff_eq.mpr c26
            have c26b1 : (a2 != 2) = false := bne_eq_false_iff_eq.mpr c26
            clear c26
            have H' := Aside0.mk H
            clear H
            go_wp2
            go_meet
            case rel => exact ⟨_, (true), (by first | rfl | (simp; done) | (simp [*]; done)), H', ⟨by have := HK1.out; first | omega | exact Nat.le_refl _⟩, ⟨HO_7.out⟩, ⟨HO_8.out⟩, ⟨by repeat (first | exact HB.out | apply below_alloc | apply pw_below_drewN | apply below_drew1)⟩⟩
           ·rw [if_neg c26] at H
            have c26b0 : (a2 == 2) = false := beq_eq_false_iff_ne.mpr c26
            have c26b1 : (a2 != 2) = true := bne_iff_ne.mpr c26
            have H' := Aside0.mk H
            clear H
            go_wp2
            go_meet
            case rel => exact ⟨_, (false), (by first | rfl | (simp; done) | (simp [*]; done)), H', ⟨by have := HK1.out; first | omega | exact Nat.le_refl _⟩, ⟨HO_7.out⟩, ⟨HO_8.out⟩, ⟨by repeat (first | exact HB.out | apply below_alloc | apply pw_below_drewN | apply below_drew1)⟩⟩
          ·replace c25 := Bool.eq_false_iff.mpr c25
           subst c25
           have H1 : (papermillref04_combine.j1 k1 l0 l1 a2 t74001 x8_1 x9_1 true) = some r := by rw [if_neg (show ¬ (false = true) by decide)] at H; first | exact H | simpa using H
           clear H
           have H := H1
           clear H1
           have H' := Aside0.mk H
           clear H
           go_wp2
           go_meet
           case rel => exact ⟨_, (true), (by first | rfl | (simp; done) | (simp [*]; done)), H', ⟨by have := HK1.out; first | omega | exact Nat.le_refl _⟩, ⟨HO_7.out⟩, ⟨HO_8.out⟩, ⟨by repeat (first | exact HB.out | apply below_alloc | apply pw_below_drewN | apply below_drew1)⟩⟩
         ·replace c24 := Bool.eq_false_iff.mpr c24
          subst c24
          have H1 : (papermillref04_combine.j1 k1 l0 l1 a2 t74001 x8_1 x9_1 true) = some r := by rw [if_neg (show ¬ (false = true) by decide)] at H; first | exact H | simpa using H
          clear H
          have H := H1
          clear H1
          have H' := Aside0.mk H
          clear H
          go_wp2
          go_meet
          case rel => exact ⟨_, (true), (by first | rfl | (simp; done) | (simp [*]; done)), H', ⟨by have := HK1.out; first | omega | exact Nat.le_refl _⟩, ⟨HO_7.out⟩, ⟨HO_8.out⟩, ⟨by repeat (first | exact HB.out | apply below_alloc | apply pw_below_drewN | apply below_drew1)⟩⟩
        ·rw [if_neg c23] at H
         have c23b0 : (a2 == 1) = false := beq_eq_false_iff_ne.mpr c23
         have c23b1 : (a2 != 1) = true := bne_iff_ne.mpr c23
         by_cases c27 : a2 = 2
         ·rw [if_pos c27] at H
          have c27b0 : (a2 == 2) = true := beq_iff_eq.mpr c27
          have c27b1 : (a2 != 2) = false := bne_eq_false_iff_eq.mpr c27
          clear c27
          by_cases c28 : t74005 = true
          ·subst c28
           have H1 : (papermillref04_combine.j1 k1 l0 l1 a2 t74001 x8_1 x9_1 t74007) = some r := by rw [if_pos rfl] at H; exact H
           clear H
           have H := H1
           clear H1
           have H' := Aside0.mk H
           clear H
           go_wp2
           go_meet
           case rel => exact ⟨_, (t74007), (by first | rfl | (simp; done) | (simp [*]; done)), H', ⟨by have := HK1.out; first | omega | exact Nat.le_refl _⟩, ⟨HO_7.out⟩, ⟨HO_8.out⟩, ⟨by repeat (first | exact HB.out | apply below_alloc | apply pw_below_drewN | apply below_drew1)⟩⟩
          ·replace c28 := Bool.eq_false_iff.mpr c28
           subst c28
           have H1 : (papermillref04_combine.j1 k1 l0 l1 a2 t74001 x8_1 x9_1 true) = some r := by rw [if_neg (show ¬ (false = true) by decide)] at H; first | exact H | simpa using H
           clear H
           have H := H1
           clear H1
           have H' := Aside0.mk H
           clear H
           go_wp2
           go_meet
           case rel => exact ⟨_, (true), (by first | rfl | (simp; done) | (simp [*]; done)), H', ⟨by have := HK1.out; first | omega | exact Nat.le_refl _⟩, ⟨HO_7.out⟩, ⟨HO_8.out⟩, ⟨by repeat (first | exact HB.out | apply below_alloc | apply pw_below_drewN | apply below_drew1)⟩⟩
         ·rw [if_neg c27] at H
          have c27b0 : (a2 == 2) = false := beq_eq_false_iff_ne.mpr c27
          have c27b1 : (a2 != 2) = true := bne_iff_ne.mpr c27
          have H' := Aside0.mk H
          clear H
          go_wp2
          go_meet
          case rel => exact ⟨_, (false), (by first | rfl | (simp; done) | (simp [*]; done)), H', ⟨by have := HK1.out; first | omega | exact Nat.le_refl _⟩, ⟨HO_7.out⟩, ⟨HO_8.out⟩, ⟨by repeat (first | exact HB.out | apply below_alloc | apply pw_below_drewN | apply below_drew1)⟩⟩
      case rest =>
       clear HC11
       try clear c1
       try clear c2
       try clear p2
       try clear c6
       try clear c6b0
       try clear p6
       try clear c7
       try clear c7b0
       try clear p7
       try clear q7
       try clear hx7
       try clear c8
       try clear c8b0
       try clear c14
       try clear c14b0
       try clear c14b1
       try clear c15
       try clear c16
       try clear c16b0
       try clear c16b1
       try clear c17
       try clear c18
       try clear c18b0
       try clear c18b1
       try clear c19
       try clear c19b0
       try clear c19b1
       try clear c20
       try clear c21
       try clear c21b0
       try clear c21b1
       try clear c22
       try clear c22b0
       try clear c22b1
       try clear c23
       try clear c23b0
       try clear c23b1
       try clear c24
       try clear c25
       try clear c26
       try clear c26b0
       try clear c26b1
       try clear c27
       try clear c27b0
       try clear c27b1
       try clear c28
       try clear hx74004_0
       try clear hx74006_0
       try clear p2
       try clear p74004
       try clear p74006
       try clear q74004
       try clear q74006
       obtain ⟨kq, x66_10, rfl, HA, HJ10, HO_7, HO_8, HB⟩ := hcut
       cases kq with
       | zero => exact absurd HA.out (by simp [papermillref04_combine.j1])
       | succ kj10 =>
        have H := HA.out
        clear HA
        simp only [papermillref04_combine.j1] at H
        by_cases c29 : x66_10 = true
        ·subst c29
         have H1 : (papermillref04_combine.l0 kj10 l0 l1 a2 t74001 x8_1 (wrap64 (x9_1 + 1))) = some r := by rw [if_pos rfl] at H; exact H
         clear H
         have H := H1
         clear H1
         have H' := Aside0.mk H
         clear H
         go_wp2
         go_roundg kj10
         case measure => have := HK1.out; have := HJ10.out; omega
         case rel => exact ⟨(x8_1), (wrap64 (x9_1 + 1)), (by first | rfl | (simp; done) | (simp [*]; done)), H', ⟨by have := HK1.out; have := HJ10.out; omega⟩, ⟨HO_7.out⟩, ⟨HO_8.out⟩, ⟨by repeat (first | exact HB.out | apply below_alloc | apply pw_below_drewN | apply below_drew1)⟩⟩
        ·replace c29 := Bool.eq_false_iff.mpr c29
         subst c29
         have H1 : (if (wrap64 ((x8_1.length : Int) - 1)) ≥ 0 then (if 0 ≤ (wrap64 ((x8_1.length : Int) - 1)) then (if (wrap64 ((x8_1.length : Int) - 1)) < (x8_1.length : Int) then (if 0 ≤ x9_1 then (if x9_1 < (t74001.length : Int) then (if ((rd_T49 x8_1 (wrap64 ((x8_1.length : Int) - 1))).f1) = (rd t74001 x9_1) then (if 0 ≤ (wrap64 (x9_1 + 1)) then (if (wrap64 (x9_1 + 1)) < (t74001.length : Int) then (papermillref04_combine.l0 kj10 l0 l1 a2 t74001 (x8_1.set ((wrap64 ((x8_1.length : Int) - 1)) : Int).toNat (⟨(rd_T49 x8_1 (wrap64 ((x8_1.length : Int) - 1))).f0, rd t74001 (wrap64 (x9_1 + 1))⟩ : S49)) (wrap64 (x9_1 + 1))) else (none)) else (none)) else (if 0 ≤ (wrap64 (x9_1 + 1)) then (if (wrap64 (x9_1 + 1)) < (t74001.length : Int) then (if x8_1.length < 8796093022208 then (papermillref04_combine.l0 kj10 l0 l1 a2 t74001 (x8_1 ++ [(⟨rd t74001 x9_1, rd t74001 (wrap64 (x9_1 + 1))⟩ : S49)]) (wrap64 (x9_1 + 1))) else (none)) else (none)) else (none))) else (none)) else (none)) else (none)) else (none)) else (if 0 ≤ x9_1 then (if x9_1 < (t74001.length : Int) then (if 0 ≤ (wrap64 (x9_1 + 1)) then (if (wrap64 (x9_1 + 1)) < (t74001.length : Int) then (if x8_1.length < 8796093022208 then (papermillref04_combine.l0 kj10 l0 l1 a2 t74001 (x8_1 ++ [(⟨rd t74001 x9_1, rd t74001 (wrap64 (x9_1 + 1))⟩ : S49)]) (wrap64 (x9_1 + 1))) else (none)) else (none)) else (none)) else (none)) else (none))) = some r := by rw [if_neg (show ¬ (false = true) by decide)] at H; first | exact H | simpa using H
         clear H
         have H := H1
         clear H1
         by_cases c30 : (wrap64 ((x8_1.length : Int) - 1)) ≥ 0
         ·rw [if_pos c30] at H
          have c30b0 : decide (0 ≤ (wrap64 ((x8_1.length : Int) - 1))) = true := decide_eq_true c30
          clear c30
          obtain ⟨ji31, hji31⟩ : ∃ j_ : Int, (wrap64 ((x8_1.length : Int) - 1)) = j_ := ⟨_, rfl⟩
          replace H : (if 0 ≤ (ji31) then (if (ji31) < (x8_1.length : Int) then (if 0 ≤ x9_1 then (if x9_1 < (t74001.length : Int) then (if ((rd_T49 x8_1 (ji31)).f1) = (rd t74001 x9_1) then (if 0 ≤ (wrap64 (x9_1 + 1)) then (if (wrap64 (x9_1 + 1)) < (t74001.length : Int) then (papermillref04_combine.l0 kj10 l0 l1 a2 t74001 (x8_1.set ((ji31) : Int).toNat (⟨(rd_T49 x8_1 (ji31)).f0, rd t74001 (wrap64 (x9_1 + 1))⟩ : S49)) (wrap64 (x9_1 + 1))) else (none)) else (none)) else (if 0 ≤ (wrap64 (x9_1 + 1)) then (if (wrap64 (x9_1 + 1)) < (t74001.length : Int) then (if x8_1.length < 8796093022208 then (papermillref04_combine.l0 kj10 l0 l1 a2 t74001 (x8_1 ++ [(⟨rd t74001 x9_1, rd t74001 (wrap64 (x9_1 + 1))⟩ : S49)]) (wrap64 (x9_1 + 1))) else (none)) else (none)) else (none))) else (none)) else (none)) else (none)) else (none)) = some r := by first | (rw [hji31] at H; exact H) | (simp only [hji31] at H ⊢; exact H)
          (try rw [hji31] at c30b0)
          have hji31w : (IntKind.i64.wrap ((x8_1.length : Int) - 1)) = ji31 := (i64_w _).trans hji31
          by_cases c32 : 0 ≤ (ji31)
          ·rw [if_pos c32] at H
           have c32b0 : decide (0 ≤ (ji31)) = true := decide_eq_true c32
           clear c32
           by_cases c33 : (ji31) < (x8_1.length : Int)
           ·rw [if_pos c33] at H
            have c33b0 : decide ((ji31) < (x8_1.length : Int)) = true := decide_eq_true c33
            clear c33
            by_cases c34 : 0 ≤ x9_1
            ·rw [if_pos c34] at H
             have c34b0 : decide (0 ≤ x9_1) = true := decide_eq_true c34
             clear c34
             by_cases c35 : x9_1 < (t74001.length : Int)
             ·rw [if_pos c35] at H
              have c35b0 : decide (x9_1 < (t74001.length : Int)) = true := decide_eq_true c35
              clear c35
              by_cases c36 : ((rd_T49 x8_1 (ji31)).f1) = (rd t74001 x9_1)
              ·rw [if_pos c36] at H
               have c36b0 : (((rd_T49 x8_1 (ji31)).f1) == (rd t74001 x9_1)) = true := beq_iff_eq.mpr c36
               have c36b1 : (((rd_T49 x8_1 (ji31)).f1) != (rd t74001 x9_1)) = false := bne_eq_false_iff_eq.mpr c36
               clear c36
               obtain ⟨ji37, hji37⟩ : ∃ j_ : Int, (wrap64 (x9_1 + 1)) = j_ := ⟨_, rfl⟩
               replace H : (if 0 ≤ (ji37) then (if (ji37) < (t74001.length : Int) then (papermillref04_combine.l0 kj10 l0 l1 a2 t74001 (x8_1.set ((ji31) : Int).toNat (⟨(rd_T49 x8_1 (ji31)).f0, rd t74001 (ji37)⟩ : S49)) ji37) else (none)) else (none)) = some r := by first | (rw [hji37] at H; exact H) | (simp only [hji37] at H ⊢; exact H)
               (try rw [hji37] at c6b0)
               have hji37w : (IntKind.i64.wrap (x9_1 + 1)) = ji37 := (i64_w _).trans hji37
               by_cases c38 : 0 ≤ (ji37)
               ·rw [if_pos c38] at H
                have c38b0 : decide (0 ≤ (ji37)) = true := decide_eq_true c38
                clear c38
                by_cases c39 : (ji37) < (t74001.length : Int)
                ·rw [if_pos c39] at H
                 have c39b0 : decide ((ji37) < (t74001.length : Int)) = true := decide_eq_true c39
                 clear c39
                 obtain ⟨y74011, hy74011⟩ : ∃ y_ : List (S49), y_ = (x8_1.set ((ji31) : Int).toNat (⟨(rd_T49 x8_1 (ji31)).f0, rd t74001 (ji37)⟩ : S49)) := ⟨_, rfl⟩
                 replace H : (papermillref04_combine.l0 kj10 l0 l1 a2 t74001 y74011 ji37) = some r := by first | (rw [hy74011]; with_reducible exact H) | (have H2_ := (Option.bind_some _ _).symm.trans H; rw [hy74011]; with_reducible exact H2_) | (have H2_ := (Option.bind_some _ _).symm.trans H; with_reducible exact H2_) | with_reducible exact H | (rw [hy74011]; exact H) | exact H
                 have Ny74011 := Aside0.mk hy74011
                 clear hy74011
                 have H' := Aside0.mk H
                 clear H
                 obtain ⟨Ao41, co41, eo41⟩ := Kd.R_slice HO_8.out
                 subst eo41
                 try go_wp2
                 have n0_ := Aside0.mk (Kd.R_drew HO_7.out)
                 have n1_ := Aside0.mk (Kd.R_drew HO_8.out)
                 have n2_ := Aside0.mk (below_drew1 HB.out)
                 clear HO_7
                 clear HO_8
                 clear HB
                 have HO_7 := n0_
                 have HO_8 := n1_
                 have HB := n2_
                 clear n0_ n1_ n2_
                 have p74008 : 0 ≤ ((ji31) : Int) := of_decide_eq_true (by assumption)
                 have q74008 : (ji31) < (x8_1.length : Int) := of_decide_eq_true (by assumption)
                 obtain ⟨ad74008, e74008, hx74008_0, hx74008_1⟩ := at_T49 (Kd.R_reads' HO_8.out).2.2 (ji31) p74008 q74008
                 cases e74008
                 replace p74008 := eq_true p74008
                 replace q74008 := eq_true q74008
                 have p74009 : 0 ≤ (x9_1 : Int) := of_decide_eq_true (by assumption)
                 have q74009 : x9_1 < (t74001.length : Int) := of_decide_eq_true (by assumption)
                 obtain ⟨ad74009, e74009, hx74009_0⟩ := Kd.at_int (Kd.R_reads' HO_7.out).2.2 x9_1 p74009 q74009
                 obtain rfl : ad74004 = ad74009 := (by injection e74009)
                 replace p74009 := eq_true p74009
                 replace q74009 := eq_true q74009
                 refine start_ (n := 14) (S := fun w' => w'.cell? (ad74008.add (((ji31)).toNat * 2)) = some (.int .i64 ((rd_T49 x8_1 (ji31)).f0)) ∧ w'.cell? ⟨(ad74008.add (((ji31)).toNat * 2)).block, (ad74008.add (((ji31)).toNat * 2)).off + 1, none⟩ = some (.int .i64 ((rd_T49 x8_1 (ji31)).f1)) ∧ w'.cell? (ad74004.add (x9_1).toNat) = some (.int .i64 (rd t74001 x9_1))) (ds := []) #[false, false, false, false, false, false, false, false, false, false, false, false, false, false] (by kernel_rfl) rfl rfl ⟨hx74008_0, hx74008_1, hx74009_0⟩ (fun hHeld => ?_); refine with_tabW papermillref04_combine.tab9 papermillref04_combine.bits9 (fun HT_ HW_ => ?_)
                 generalize wc.drew = w42 at HO_7 HO_8 HB hx74008_0 hx74008_1 hx74009_0 hHeld ⊢
                 refine pure_ (i := 0) (N := some 70) (v := ?_) (a' := ?_) #[true, false, false, false, false, false, false, false, false, false, false, false, false, false] rfl rfl (any_of HT_.out (by kernel_rfl)) (fun _ _ _ h => h) (Or.inl ⟨by rfl, ?_⟩) ?_ ?_
                 rotate_left
                 ·intro w'
                  go_simp
                  with_reducible rfl
                 rotate_left
                 ·simp only [Act.put, List.setIfInBounds_toArray, List.set_cons_zero, List.set_cons_succ, i64_w, i32_w]
                  rfl
                 refine pure_ (i := 1) (N := some 71) (v := ?_) (a' := ?_) #[true, true, false, false, false, false, false, false, false, false, false, false, false, false] rfl rfl (any_of HT_.out (by kernel_rfl)) (fun _ _ _ h => h) (Or.inl ⟨by rfl, ?_⟩) ?_ ?_
                 rotate_left
                 ·intro w'
                  go_simp
                  with_reducible rfl
                 rotate_left
                 ·simp only [Act.put, List.setIfInBounds_toArray, List.set_cons_zero, List.set_cons_succ, i64_w, i32_w]
                  rfl
                 refine pure_ (i := 2) (N := some 72) (v := ?_) (a' := ?_) #[true, true, true, false, false, false, false, false, false, false, false, false, false, false] rfl rfl (any_of HT_.out (by kernel_rfl)) (fun _ _ _ h => h) (Or.inl ⟨by rfl, ?_⟩) ?_ ?_
                 rotate_left
                 ·intro w'
                  go_simp
                  with_reducible rfl
                 rotate_left
                 ·simp only [Act.put, List.setIfInBounds_toArray, List.set_cons_zero, List.set_cons_succ, i64_w, i32_w]
                  rfl
                 refine pure_ (i := 3) (N := some 73) (v := ?_) (a' := ?_) #[true, true, true, true, false, false, false, false, false, false, false, false, false, false] rfl rfl (any_of HT_.out (by kernel_rfl)) (fun _ _ _ h => h) (Or.inl ⟨by rfl, ?_⟩) ?_ ?_
                 rotate_left
                 ·intro w'
                  go_simp
                  with_reducible rfl
                 rotate_left
                 ·simp only [Act.put, List.setIfInBounds_toArray, List.set_cons_zero, List.set_cons_succ, i64_w, i32_w]
                  rfl
                 refine pure_ (i := 4) (N := some 74) (v := ?_) (a' := ?_) #[true, true, true, true, true, false, false, false, false, false, false, false, false, false] rfl rfl (any_of HT_.out (by kernel_rfl)) (fun _ _ _ h => h) (Or.inl ⟨by rfl, ?_⟩) ?_ ?_
                 rotate_left
                 ·intro w'
                  go_simp
                  with_reducible rfl
                 rotate_left
                 ·simp only [Act.put, List.setIfInBounds_toArray, List.set_cons_zero, List.set_cons_succ, i64_w, i32_w]
                  rfl
                 refine pure_ (i := 5) (N := some 75) (v := ?_) (a' := ?_) #[true, true, true, true, true, true, false, false, false, false, false, false, false, false] rfl rfl (any_of HT_.out (by kernel_rfl)) (fun _ _ _ h => h) (Or.inl ⟨by rfl, ?_⟩) ?_ ?_
                 rotate_left
                 ·intro w'
                  go_simp
                  with_reducible rfl
                 rotate_left
                 ·simp only [Act.put, List.setIfInBounds_toArray, List.set_cons_zero, List.set_cons_succ, i64_w, i32_w]
                  rfl
                 refine pure_ (i := 6) (N := some 76) (v := ?_) (a' := ?_) #[true, true, true, true, true, true, true, false, false, false, false, false, false, false] rfl rfl (any_of HT_.out (by kernel_rfl)) (fun _ _ _ h => h) (Or.inl ⟨by rfl, ?_⟩) ?_ ?_
                 rotate_left
                 ·intro w'
                  go_simp
                  with_reducible rfl
                 rotate_left
                 ·simp only [Act.put, List.setIfInBounds_toArray, List.set_cons_zero, List.set_cons_succ, i64_w, i32_w]
                  rfl
                 refine pure_ (i := 8) (N := some 78) (v := ?_) (a' := ?_) #[true, true, true, true, true, true, true, false, true, false, false, false, false, false] rfl rfl (any_of HT_.out (by kernel_rfl)) (fun _ _ _ h => h) (Or.inl ⟨by rfl, ?_⟩) ?_ ?_
                 rotate_left
                 ·intro w'
                  go_simp
                  with_reducible rfl
                 rotate_left
                 ·simp only [Act.put, List.setIfInBounds_toArray, List.set_cons_zero, List.set_cons_succ, i64_w, i32_w]
                  rfl
                 refine pure_ (i := 9) (N := some 79) (v := ?_) (a' := ?_) #[true, true, true, true, true, true, true, false, true, true, false, false, false, false] rfl rfl (any_of HT_.out (by kernel_rfl)) (fun _ _ _ h => h) (Or.inl ⟨by rfl, ?_⟩) ?_ ?_
                 rotate_left
                 ·intro w'
                  go_simp
                  with_reducible rfl
                 rotate_left
                 ·simp only [Act.put, List.setIfInBounds_toArray, List.set_cons_zero, List.set_cons_succ, i64_w, i32_w]
                  rfl
                 refine pure_ (i := 10) (N := some 80) (v := ?_) (a' := ?_) #[true, true, true, true, true, true, true, false, true, true, true, false, false, false] rfl rfl (any_of HT_.out (by kernel_rfl)) (fun _ _ _ h => h) (Or.inl ⟨by rfl, ?_⟩) ?_ ?_
                 rotate_left
                 ·intro w'
                  go_simp
                  with_reducible rfl
                 rotate_left
                 ·simp only [Act.put, List.setIfInBounds_toArray, List.set_cons_zero, List.set_cons_succ, i64_w, i32_w]
                  rfl
                 refine take_ (i := 7) (N := some 77) (v := ?_) (a' := ?_) #[true, true, true, true, true, true, true, true, true, true, true, false, false, false] rfl rfl (take_ofW HT_.out HW_.out (by kernel_rfl)) (fun _ _ _ h => h) (Or.inl ⟨by rfl, ?_⟩) hHeld ?_ ?_
                 rotate_left
                 ·rintro w' ⟨s0, s1, s2⟩
                  go_simp
                  with_reducible rfl
                 rotate_left
                 ·simp only [Act.put, List.setIfInBounds_toArray, List.set_cons_zero, List.set_cons_succ, i64_w, i32_w]
                  rfl
                 refine take_ (i := 11) (N := some 81) (v := ?_) (a' := ?_) #[true, true, true, true, true, true, true, true, true, true, true, true, false, false] rfl rfl (take_ofW HT_.out HW_.out (by kernel_rfl)) (fun _ _ _ h => h) (Or.inl ⟨by rfl, ?_⟩) hHeld ?_ ?_
                 rotate_left
                 ·rintro w' ⟨s0, s1, s2⟩
                  go_simp
                  with_reducible rfl
                 rotate_left
                 ·simp only [Act.put, List.setIfInBounds_toArray, List.set_cons_zero, List.set_cons_succ, i64_w, i32_w]
                  rfl
                 refine pure_ (i := 12) (N := some 82) (v := ?_) (a' := ?_) #[true, true, true, true, true, true, true, true, true, true, true, true, true, false] rfl rfl (any_of HT_.out (by kernel_rfl)) (fun _ _ _ h => h) (Or.inl ⟨by rfl, ?_⟩) ?_ ?_
                 rotate_left
                 ·intro w'
                  go_simp
                  with_reducible rfl
                 rotate_left
                 ·simp only [Act.put, List.setIfInBounds_toArray, List.set_cons_zero, List.set_cons_succ, i64_w, i32_w]
                  rfl
                 refine pure_ (i := 13) (N := some 83) (v := ?_) (a' := ?_) #[true, true, true, true, true, true, true, true, true, true, true, true, true, true] rfl rfl (any_of HT_.out (by kernel_rfl)) (fun _ _ _ h => h) (Or.inl ⟨by rfl, ?_⟩) ?_ ?_
                 rotate_left
                 ·intro w'
                  go_simp
                  with_reducible rfl
                 rotate_left
                 ·simp only [Act.put, List.setIfInBounds_toArray, List.set_cons_zero, List.set_cons_succ, i64_w, i32_w]
                  rfl
                 refine done_ (done_of HT_.out (by kernel_rfl)) ?_
                 have p74010 : 0 ≤ ((ji37) : Int) := of_decide_eq_true (by assumption)
                 have q74010 : (ji37) < (t74001.length : Int) := of_decide_eq_true (by assumption)
                 obtain ⟨ad74010, e74010, hx74010_0⟩ := Kd.at_int (Kd.R_reads' HO_7.out).2.2 (ji37) p74010 q74010
                 obtain rfl : ad74004 = ad74010 := (by injection e74010)
                 replace p74010 := eq_true p74010
                 replace q74010 := eq_true q74010
                 have p40 : 0 ≤ ((ji31) : Int) := of_decide_eq_true (by assumption)
                 have q40 : ((ji31) : Int) < ((x8_1.length : Int) : Int) := of_decide_eq_true (by assumption)
                 obtain ⟨go40, co40, eo40, gb40, gl40, cl40, HG40⟩ := Kd.R_form HO_8.out (by omega)
                 (first | cases eo40 | (injection eo40 with ea_ en_ ec_; (first | subst ea_ | (injection ea_ with ea_; subst ea_)); subst ec_; clear en_))
                 have GB40 := Aside0.mk gb40
                 have GG40 := Aside0.mk HG40
                 clear gb40 gl40 HG40
                 (first | simp only [add_plain] at hx74008_0 | skip)
                 (first | simp only [add_plain] at hx74008_1 | skip)
                 obtain ⟨ce40, hcl40, hM40, hcc40, hfr40⟩ := Kd.R_elem HO_8.out z49 ((ji31) : Int) p40 q40
                 obtain rfl := k49_openM hM40
                 have hx40_0 : w42.cell? ⟨go40, ((ji31) : Int).toNat * 2, none⟩ = some (.int .i64 ((rd_T49 x8_1 (ji31)).f0)) := hcc40 0 _ rfl
                 have hx40_1 : w42.cell? ⟨go40, ((ji31) : Int).toNat * 2 + 1, none⟩ = some (.int .i64 ((rd_T49 x8_1 (ji31)).f1)) := hcc40 1 _ rfl
                 have hf40_0 : w42.frozen? ⟨go40, ((ji31) : Int).toNat * 2, none⟩ = false := hfr40 0
                 have hf40_1 : w42.frozen? ⟨go40, ((ji31) : Int).toNat * 2 + 1, none⟩ = false := hfr40 1
                 clear hcl40 hcc40 hfr40 hM40
                 replace p40 := eq_true p40
                 replace q40 := eq_true q40
                 have HX43 := Aside0.mk (show Kd.R k49 49 w42 w.heap.size (fun _ => True) (.slice (some ⟨go40, 0, none⟩) x8_1.length co41) x8_1 from (HO_8.out))
                 obtain ⟨ce43, hcl43, hM43, hcc43, hfr43⟩ := Kd.R_elem HX43.out z49 ((ji31) : Int) (of_decide_eq_true (by assumption)) (by have h_ : ((ji31) : Int) < ((x8_1.length : Int) : Int) := of_decide_eq_true (by assumption); first | exact h_ | (have e_ := (Kd.R_reads' HO_8.out).1; omega) | simpa using h_)
                 obtain rfl := k49_openM hM43
                 have HP43 := Kd.R_seg HX43.out ((ji31) : Int) (of_decide_eq_true (by assumption)) (by have h_ : ((ji31) : Int) < ((x8_1.length : Int) : Int) := of_decide_eq_true (by assumption); first | exact h_ | (have e_ := (Kd.R_reads' HO_8.out).1; omega) | simpa using h_) (seg := [.int .i64 (rd t74001 (ji37))]) (j := 1) hcl43 hcc43 (show 2 ≤ 2 from by decide) (x' := (⟨(rd_T49 x8_1 (ji31)).f0, rd t74001 (ji37)⟩ : S49)) (k49_mkM _ _ _ (⟨(rd_T49 x8_1 (ji31)).f0, rd t74001 (ji37)⟩ : S49) ) (fun _ hk => hk)
                 have hx43_1 := hcc43 1 _ rfl
                 (try simp only [show (k49).sz = 2 from rfl, Nat.mul_one, Nat.add_zero] at hx43_1)
                 have hf43_1 := hfr43 1
                 (try simp only [show (k49).sz = 2 from rfl, Nat.mul_one, Nat.add_zero] at hf43_1)
                 clear hcl43 hcc43 hfr43 hM43
                 try go_wp2_with (first | ((with_reducible refine gate_store (t := 3) (p := 92) rfl ?_); refine store_event (t := 3) (p := 92) (v := ?vo_w44) (w1 := (w42.setCell ⟨go40, ((ji31) : Int).toNat * 2 + 1, none⟩ (.int .i64 (rd t74001 (ji37))))) ?hg ?ho ?hn ?hr ?_; (case ho => rfl); (case hg => rfl); (case hn => rfl); (case hr => first | (go_simp; done) | (go_simp; rfl)); intro w44 hw; have hg : w42.grownBy w44 (some go40) := (by rw [hw]; exact HP43.2); have hp_ : Kd.R k49 49 w44 w.heap.size (fun _ => True) (.slice (some ⟨go40, 0, none⟩) x8_1.length co41) y74011 := (by rw [hw, Ny74011.out]; exact HP43.1); clear HP43; have n0_ := Aside0.mk (Kd.R_over' (v := (.slice (some ⟨go40, 0, none⟩) x8_1.length co41)) (HO_7.out) (Kd.R_typed HO_8.out) (by decide) hg); have n1_ := Aside0.mk (hp_); have n2_ := Aside0.mk ((by rw [hw]; exact below_set (HB.out) GB40.out : Below w.heap.size w w44)); clear HO_7; clear HO_8; clear HB; have HO_7 := n0_; have HO_8 := n1_; have HB := n2_; clear n0_ n1_ n2_; clear hg hw hp_))
                 go_roundg kj10
                 case measure => have := HK1.out; have := HJ10.out; omega
                 case rel => exact ⟨(y74011), (ji37), (by first | rfl | (simp; done) | (simp only [← hji37] <;> (first | rfl | (simp; done))) | (simp [*]; done)), H', ⟨by have := HK1.out; have := HJ10.out; omega⟩, ⟨HO_7.out⟩, ⟨HO_8.out⟩, ⟨by repeat (first | exact HB.out | apply below_alloc | apply pw_below_drewN | apply below_drew1)⟩⟩
                ·rw [if_neg c39] at H
                 exact absurd H (by simp)
               ·rw [if_neg c38] at H
                exact absurd H (by simp)
              ·rw [if_neg c36] at H
               have c36b0 : (((rd_T49 x8_1 (ji31)).f1) == (rd t74001 x9_1)) = false := beq_eq_false_iff_ne.mpr c36
               have c36b1 : (((rd_T49 x8_1 (ji31)).f1) != (rd t74001 x9_1)) = true := bne_iff_ne.mpr c36
               obtain ⟨ji45, hji45⟩ : ∃ j_ : Int, (wrap64 (x9_1 + 1)) = j_ := ⟨_, rfl⟩
               replace H : (if 0 ≤ (ji45) then (if (ji45) < (t74001.length : Int) then (if x8_1.length < 8796093022208 then (papermillref04_combine.l0 kj10 l0 l1 a2 t74001 (x8_1 ++ [(⟨rd t74001 x9_1, rd t74001 (ji45)⟩ : S49)]) ji45) else (none)) else (none)) else (none)) = some r := by first | (rw [hji45] at H; exact H) | (simp only [hji45] at H ⊢; exact H)
               (try rw [hji45] at c6b0)
               have hji45w : (IntKind.i64.wrap (x9_1 + 1)) = ji45 := (i64_w _).trans hji45
               by_cases c46 : 0 ≤ (ji45)
               ·rw [if_pos c46] at H
                have c46b0 : decide (0 ≤ (ji45)) = true := decide_eq_true c46
                clear c46
                by_cases c47 : (ji45) < (t74001.length : Int)
                ·rw [if_pos c47] at H
                 have c47b0 : decide ((ji45) < (t74001.length : Int)) = true := decide_eq_true c47
                 clear c47
                 by_cases c48 : x8_1.length < 8796093022208
                 ·rw [if_pos c48] at H
                  have LMc48 := Aside0.mk c48
                  clear c48
                  obtain ⟨y74014, hy74014⟩ : ∃ y_ : List (S49), y_ = (x8_1 ++ [(⟨rd t74001 x9_1, rd t74001 (ji45)⟩ : S49)]) := ⟨_, rfl⟩
                  replace H : (papermillref04_combine.l0 kj10 l0 l1 a2 t74001 y74014 ji45) = some r := by first | (rw [hy74014]; with_reducible exact H) | (have H2_ := (Option.bind_some _ _).symm.trans H; rw [hy74014]; with_reducible exact H2_) | (have H2_ := (Option.bind_some _ _).symm.trans H; with_reducible exact H2_) | with_reducible exact H | (rw [hy74014]; exact H) | exact H
                  have Ny74014 := Aside0.mk hy74014
                  clear hy74014
                  have H' := Aside0.mk H
                  clear H
                  obtain ⟨Ao49, co49, eo49⟩ := Kd.R_slice HO_8.out
                  subst eo49
                  try go_wp2
                  have n0_ := Aside0.mk (Kd.R_drew HO_7.out)
                  have n1_ := Aside0.mk (Kd.R_drew HO_8.out)
                  have n2_ := Aside0.mk (below_drew1 HB.out)
                  clear HO_7
                  clear HO_8
                  clear HB
                  have HO_7 := n0_
                  have HO_8 := n1_
                  have HB := n2_
                  clear n0_ n1_ n2_
                  have p74008 : 0 ≤ ((ji31) : Int) := of_decide_eq_true (by assumption)
                  have q74008 : (ji31) < (x8_1.length : Int) := of_decide_eq_true (by assumption)
                  obtain ⟨ad74008, e74008, hx74008_0, hx74008_1⟩ := at_T49 (Kd.R_reads' HO_8.out).2.2 (ji31) p74008 q74008
                  cases e74008
                  replace p74008 := eq_true p74008
                  replace q74008 := eq_true q74008
                  have p74009 : 0 ≤ (x9_1 : Int) := of_decide_eq_true (by assumption)
                  have q74009 : x9_1 < (t74001.length : Int) := of_decide_eq_true (by assumption)
                  obtain ⟨ad74009, e74009, hx74009_0⟩ := Kd.at_int (Kd.R_reads' HO_7.out).2.2 x9_1 p74009 q74009
                  obtain rfl : ad74004 = ad74009 := (by injection e74009)
                  replace p74009 := eq_true p74009
                  replace q74009 := eq_true q74009
                  refine start_ (n := 14) (S := fun w' => w'.cell? (ad74008.add (((ji31)).toNat * 2)) = some (.int .i64 ((rd_T49 x8_1 (ji31)).f0)) ∧ w'.cell? ⟨(ad74008.add (((ji31)).toNat * 2)).block, (ad74008.add (((ji31)).toNat * 2)).off + 1, none⟩ = some (.int .i64 ((rd_T49 x8_1 (ji31)).f1)) ∧ w'.cell? (ad74004.add (x9_1).toNat) = some (.int .i64 (rd t74001 x9_1))) (ds := []) #[false, false, false, false, false, false, false, false, false, false, false, false, false, false] (by kernel_rfl) rfl rfl ⟨hx74008_0, hx74008_1, hx74009_0⟩ (fun hHeld => ?_); refine with_tabW papermillref04_combine.tab9 papermillref04_combine.bits9 (fun HT_ HW_ => ?_)
                  generalize wc.drew = w50 at HO_7 HO_8 HB hx74008_0 hx74008_1 hx74009_0 hHeld ⊢
                  refine pure_ (i := 0) (N := some 70) (v := ?_) (a' := ?_) #[true, false, false, false, false, false, false, false, false, false, false, false, false, false] rfl rfl (any_of HT_.out (by kernel_rfl)) (fun _ _ _ h => h) (Or.inl ⟨by rfl, ?_⟩) ?_ ?_
                  rotate_left
                  ·intro w'
                   go_simp
                   with_reducible rfl
                  rotate_left
                  ·simp only [Act.put, List.setIfInBounds_toArray, List.set_cons_zero, List.set_cons_succ, i64_w, i32_w]
                   rfl
                  refine pure_ (i := 1) (N := some 71) (v := ?_) (a' := ?_) #[true, true, false, false, false, false, false, false, false, false, false, false, false, false] rfl rfl (any_of HT_.out (by kernel_rfl)) (fun _ _ _ h => h) (Or.inl ⟨by rfl, ?_⟩) ?_ ?_
                  rotate_left
                  ·intro w'
                   go_simp
                   with_reducible rfl
                  rotate_left
                  ·simp only [Act.put, List.setIfInBounds_toArray, List.set_cons_zero, List.set_cons_succ, i64_w, i32_w]
                   rfl
                  refine pure_ (i := 2) (N := some 72) (v := ?_) (a' := ?_) #[true, true, true, false, false, false, false, false, false, false, false, false, false, false] rfl rfl (any_of HT_.out (by kernel_rfl)) (fun _ _ _ h => h) (Or.inl ⟨by rfl, ?_⟩) ?_ ?_
                  rotate_left
                  ·intro w'
                   go_simp
                   with_reducible rfl
                  rotate_left
                  ·simp only [Act.put, List.setIfInBounds_toArray, List.set_cons_zero, List.set_cons_succ, i64_w, i32_w]
                   rfl
                  refine pure_ (i := 3) (N := some 73) (v := ?_) (a' := ?_) #[true, true, true, true, false, false, false, false, false, false, false, false, false, false] rfl rfl (any_of HT_.out (by kernel_rfl)) (fun _ _ _ h => h) (Or.inl ⟨by rfl, ?_⟩) ?_ ?_
                  rotate_left
                  ·intro w'
                   go_simp
                   with_reducible rfl
                  rotate_left
                  ·simp only [Act.put, List.setIfInBounds_toArray, List.set_cons_zero, List.set_cons_succ, i64_w, i32_w]
                   rfl
                  refine pure_ (i := 4) (N := some 74) (v := ?_) (a' := ?_) #[true, true, true, true, true, false, false, false, false, false, false, false, false, false] rfl rfl (any_of HT_.out (by kernel_rfl)) (fun _ _ _ h => h) (Or.inl ⟨by rfl, ?_⟩) ?_ ?_
                  rotate_left
                  ·intro w'
                   go_simp
                   with_reducible rfl
                  rotate_left
                  ·simp only [Act.put, List.setIfInBounds_toArray, List.set_cons_zero, List.set_cons_succ, i64_w, i32_w]
                   rfl
                  refine pure_ (i := 5) (N := some 75) (v := ?_) (a' := ?_) #[true, true, true, true, true, true, false, false, false, false, false, false, false, false] rfl rfl (any_of HT_.out (by kernel_rfl)) (fun _ _ _ h => h) (Or.inl ⟨by rfl, ?_⟩) ?_ ?_
                  rotate_left
                  ·intro w'
                   go_simp
                   with_reducible rfl
                  rotate_left
                  ·simp only [Act.put, List.setIfInBounds_toArray, List.set_cons_zero, List.set_cons_succ, i64_w, i32_w]
                   rfl
                  refine pure_ (i := 6) (N := some 76) (v := ?_) (a' := ?_) #[true, true, true, true, true, true, true, false, false, false, false, false, false, false] rfl rfl (any_of HT_.out (by kernel_rfl)) (fun _ _ _ h => h) (Or.inl ⟨by rfl, ?_⟩) ?_ ?_
                  rotate_left
                  ·intro w'
                   go_simp
                   with_reducible rfl
                  rotate_left
                  ·simp only [Act.put, List.setIfInBounds_toArray, List.set_cons_zero, List.set_cons_succ, i64_w, i32_w]
                   rfl
                  refine pure_ (i := 8) (N := some 78) (v := ?_) (a' := ?_) #[true, true, true, true, true, true, true, false, true, false, false, false, false, false] rfl rfl (any_of HT_.out (by kernel_rfl)) (fun _ _ _ h => h) (Or.inl ⟨by rfl, ?_⟩) ?_ ?_
                  rotate_left
                  ·intro w'
                   go_simp
                   with_reducible rfl
                  rotate_left
                  ·simp only [Act.put, List.setIfInBounds_toArray, List.set_cons_zero, List.set_cons_succ, i64_w, i32_w]
                   rfl
                  refine pure_ (i := 9) (N := some 79) (v := ?_) (a' := ?_) #[true, true, true, true, true, true, true, false, true, true, false, false, false, false] rfl rfl (any_of HT_.out (by kernel_rfl)) (fun _ _ _ h => h) (Or.inl ⟨by rfl, ?_⟩) ?_ ?_
                  rotate_left
                  ·intro w'
                   go_simp
                   with_reducible rfl
                  rotate_left
                  ·simp only [Act.put, List.setIfInBounds_toArray, List.set_cons_zero, List.set_cons_succ, i64_w, i32_w]
                   rfl
                  refine pure_ (i := 10) (N := some 80) (v := ?_) (a' := ?_) #[true, true, true, true, true, true, true, false, true, true, true, false, false, false] rfl rfl (any_of HT_.out (by kernel_rfl)) (fun _ _ _ h => h) (Or.inl ⟨by rfl, ?_⟩) ?_ ?_
                  rotate_left
                  ·intro w'
                   go_simp
                   with_reducible rfl
                  rotate_left
                  ·simp only [Act.put, List.setIfInBounds_toArray, List.set_cons_zero, List.set_cons_succ, i64_w, i32_w]
                   rfl
                  refine take_ (i := 7) (N := some 77) (v := ?_) (a' := ?_) #[true, true, true, true, true, true, true, true, true, true, true, false, false, false] rfl rfl (take_ofW HT_.out HW_.out (by kernel_rfl)) (fun _ _ _ h => h) (Or.inl ⟨by rfl, ?_⟩) hHeld ?_ ?_
                  rotate_left
                  ·rintro w' ⟨s0, s1, s2⟩
                   go_simp
                   with_reducible rfl
                  rotate_left
                  ·simp only [Act.put, List.setIfInBounds_toArray, List.set_cons_zero, List.set_cons_succ, i64_w, i32_w]
                   rfl
                  refine take_ (i := 11) (N := some 81) (v := ?_) (a' := ?_) #[true, true, true, true, true, true, true, true, true, true, true, true, false, false] rfl rfl (take_ofW HT_.out HW_.out (by kernel_rfl)) (fun _ _ _ h => h) (Or.inl ⟨by rfl, ?_⟩) hHeld ?_ ?_
                  rotate_left
                  ·rintro w' ⟨s0, s1, s2⟩
                   go_simp
                   with_reducible rfl
                  rotate_left
                  ·simp only [Act.put, List.setIfInBounds_toArray, List.set_cons_zero, List.set_cons_succ, i64_w, i32_w]
                   rfl
                  refine pure_ (i := 12) (N := some 82) (v := ?_) (a' := ?_) #[true, true, true, true, true, true, true, true, true, true, true, true, true, false] rfl rfl (any_of HT_.out (by kernel_rfl)) (fun _ _ _ h => h) (Or.inl ⟨by rfl, ?_⟩) ?_ ?_
                  rotate_left
                  ·intro w'
                   go_simp
                   with_reducible rfl
                  rotate_left
                  ·simp only [Act.put, List.setIfInBounds_toArray, List.set_cons_zero, List.set_cons_succ, i64_w, i32_w]
                   rfl
                  refine pure_ (i := 13) (N := some 83) (v := ?_) (a' := ?_) #[true, true, true, true, true, true, true, true, true, true, true, true, true, true] rfl rfl (any_of HT_.out (by kernel_rfl)) (fun _ _ _ h => h) (Or.inl ⟨by rfl, ?_⟩) ?_ ?_
                  rotate_left
                  ·intro w'
                   go_simp
                   with_reducible rfl
                  rotate_left
                  ·simp only [Act.put, List.setIfInBounds_toArray, List.set_cons_zero, List.set_cons_succ, i64_w, i32_w]
                   rfl
                  refine done_ (done_of HT_.out (by kernel_rfl)) ?_
                  try go_wp2
                  have n0_ := Aside0.mk (Kd.R_drew HO_7.out)
                  have n1_ := Aside0.mk (Kd.R_drew HO_8.out)
                  have n2_ := Aside0.mk (below_drew1 HB.out)
                  clear HO_7
                  clear HO_8
                  clear HB
                  have HO_7 := n0_
                  have HO_8 := n1_
                  have HB := n2_
                  clear n0_ n1_ n2_
                  have p74012 : 0 ≤ (x9_1 : Int) := of_decide_eq_true (by assumption)
                  have q74012 : x9_1 < (t74001.length : Int) := of_decide_eq_true (by assumption)
                  obtain ⟨ad74012, e74012, hx74012_0⟩ := Kd.at_int (Kd.R_reads' HO_7.out).2.2 x9_1 p74012 q74012
                  obtain rfl : ad74004 = ad74012 := (by injection e74012)
                  replace p74012 := eq_true p74012
                  replace q74012 := eq_true q74012
                  have p74013 : 0 ≤ ((ji45) : Int) := of_decide_eq_true (by assumption)
                  have q74013 : (ji45) < (t74001.length : Int) := of_decide_eq_true (by assumption)
                  obtain ⟨ad74013, e74013, hx74013_0⟩ := Kd.at_int (Kd.R_reads' HO_7.out).2.2 (ji45) p74013 q74013
                  obtain rfl : ad74004 = ad74013 := (by injection e74013)
                  replace p74013 := eq_true p74013
                  replace q74013 := eq_true q74013
                  refine start_ (n := 14) (S := fun w' => w'.cell? (ad74004.add (x9_1).toNat) = some (.int .i64 (rd t74001 x9_1)) ∧ w'.cell? (ad74004.add ((ji45)).toNat) = some (.int .i64 (rd t74001 (ji45)))) (ds := [11, 12]) #[false, false, false, false, false, false, false, false, false, false, false, false, false, false] (by kernel_rfl) rfl rfl ⟨hx74012_0, hx74013_0⟩ (fun hHeld => ?_); refine with_tabW papermillref04_combine.tab11 papermillref04_combine.bits11 (fun HT_ HW_ => ?_)
                  generalize w50.drew = w51 at HO_7 HO_8 HB hx74012_0 hx74013_0 hHeld ⊢
                  refine pure_ (i := 0) (N := some 93) (v := ?_) (a' := ?_) #[true, false, false, false, false, false, false, false, false, false, false, false, false, false] rfl rfl (any_of HT_.out (by kernel_rfl)) (fun _ _ _ h => h) (Or.inl ⟨by rfl, ?_⟩) ?_ ?_
                  rotate_left
                  ·intro w'
                   go_simp
                   with_reducible rfl
                  rotate_left
                  ·simp only [Act.put, List.setIfInBounds_toArray, List.set_cons_zero, List.set_cons_succ, i64_w, i32_w]
                   rfl
                  refine pure_ (i := 1) (N := some 94) (v := ?_) (a' := ?_) #[true, true, false, false, false, false, false, false, false, false, false, false, false, false] rfl rfl (any_of HT_.out (by kernel_rfl)) (fun _ _ _ h => h) (Or.inl ⟨by rfl, ?_⟩) ?_ ?_
                  rotate_left
                  ·intro w'
                   go_simp
                   with_reducible rfl
                  rotate_left
                  ·simp only [Act.put, List.setIfInBounds_toArray, List.set_cons_zero, List.set_cons_succ, i64_w, i32_w]
                   rfl
                  refine pure_ (i := 2) (N := some 95) (v := ?_) (a' := ?_) #[true, true, true, false, false, false, false, false, false, false, false, false, false, false] rfl rfl (any_of HT_.out (by kernel_rfl)) (fun _ _ _ h => h) (Or.inl ⟨by rfl, ?_⟩) ?_ ?_
                  rotate_left
                  ·intro w'
                   go_simp
                   with_reducible rfl
                  rotate_left
                  ·simp only [Act.put, List.setIfInBounds_toArray, List.set_cons_zero, List.set_cons_succ, i64_w, i32_w]
                   rfl
                  refine pure_ (i := 3) (N := some 96) (v := ?_) (a' := ?_) #[true, true, true, true, false, false, false, false, false, false, false, false, false, false] rfl rfl (any_of HT_.out (by kernel_rfl)) (fun _ _ _ h => h) (Or.inl ⟨by rfl, ?_⟩) ?_ ?_
                  rotate_left
                  ·intro w'
                   go_simp
                   with_reducible rfl
                  rotate_left
                  ·simp only [Act.put, List.setIfInBounds_toArray, List.set_cons_zero, List.set_cons_succ, i64_w, i32_w]
                   rfl
                  refine pure_ (i := 5) (N := some 98) (v := ?_) (a' := ?_) #[true, true, true, true, false, true, false, false, false, false, false, false, false, false] rfl rfl (any_of HT_.out (by kernel_rfl)) (fun _ _ _ h => h) (Or.inl ⟨by rfl, ?_⟩) ?_ ?_
                  rotate_left
                  ·intro w'
                   go_simp
                   with_reducible rfl
                  rotate_left
                  ·simp only [Act.put, List.setIfInBounds_toArray, List.set_cons_zero, List.set_cons_succ, i64_w, i32_w]
                   rfl
                  refine pure_ (i := 6) (N := some 99) (v := ?_) (a' := ?_) #[true, true, true, true, false, true, true, false, false, false, false, false, false, false] rfl rfl (any_of HT_.out (by kernel_rfl)) (fun _ _ _ h => h) (Or.inl ⟨by rfl, ?_⟩) ?_ ?_
                  rotate_left
                  ·intro w'
                   go_simp
                   with_reducible rfl
                  rotate_left
                  ·simp only [Act.put, List.setIfInBounds_toArray, List.set_cons_zero, List.set_cons_succ, i64_w, i32_w]
                   rfl
                  refine pure_ (i := 7) (N := some 100) (v := ?_) (a' := ?_) #[true, true, true, true, false, true, true, true, false, false, false, false, false, false] rfl rfl (any_of HT_.out (by kernel_rfl)) (fun _ _ _ h => h) (Or.inl ⟨by rfl, ?_⟩) ?_ ?_
                  rotate_left
                  ·intro w'
                   go_simp
                   with_reducible rfl
                  rotate_left
                  ·simp only [Act.put, List.setIfInBounds_toArray, List.set_cons_zero, List.set_cons_succ, i64_w, i32_w]
                   rfl
                  refine pure_ (i := 8) (N := some 101) (v := ?_) (a' := ?_) #[true, true, true, true, false, true, true, true, true, false, false, false, false, false] rfl rfl (any_of HT_.out (by kernel_rfl)) (fun _ _ _ h => h) (Or.inl ⟨by rfl, ?_⟩) ?_ ?_
                  rotate_left
                  ·intro w'
                   go_simp
                   with_reducible rfl
                  rotate_left
                  ·simp only [Act.put, List.setIfInBounds_toArray, List.set_cons_zero, List.set_cons_succ, i64_w, i32_w]
                   rfl
                  refine take_ (i := 4) (N := some 97) (v := ?_) (a' := ?_) #[true, true, true, true, true, true, true, true, true, false, false, false, false, false] rfl rfl (take_ofW HT_.out HW_.out (by kernel_rfl)) (fun _ _ _ h => h) (Or.inl ⟨by rfl, ?_⟩) hHeld ?_ ?_
                  rotate_left
                  ·rintro w' ⟨s0, s1⟩
                   go_simp
                   with_reducible rfl
                  rotate_left
                  ·simp only [Act.put, List.setIfInBounds_toArray, List.set_cons_zero, List.set_cons_succ, i64_w, i32_w]
                   rfl
                  refine take_ (i := 9) (N := some 102) (v := ?_) (a' := ?_) #[true, true, true, true, true, true, true, true, true, true, false, false, false, false] rfl rfl (take_ofW HT_.out HW_.out (by kernel_rfl)) (fun _ _ _ h => h) (Or.inl ⟨by rfl, ?_⟩) hHeld ?_ ?_
                  rotate_left
                  ·rintro w' ⟨s0, s1⟩
                   go_simp
                   with_reducible rfl
                  rotate_left
                  ·simp only [Act.put, List.setIfInBounds_toArray, List.set_cons_zero, List.set_cons_succ, i64_w, i32_w]
                   rfl
                  refine pure_ (i := 10) (N := some 103) (v := ?_) (a' := ?_) #[true, true, true, true, true, true, true, true, true, true, true, false, false, false] rfl rfl (any_of HT_.out (by kernel_rfl)) (fun _ _ _ h => h) (Or.inl ⟨by rfl, ?_⟩) ?_ ?_
                  rotate_left
                  ·intro w'
                   go_simp
                   with_reducible rfl
                  rotate_left
                  ·simp only [Act.put, List.setIfInBounds_toArray, List.set_cons_zero, List.set_cons_succ, i64_w, i32_w]
                   rfl
                  refine last_ (i := 11) (N := some 104) #[true, true, true, true, true, true, true, true, true, true, true, true, false, false] rfl rfl (one_of HT_.out (by kernel_rfl)) (by decide) (fun K hK => ?_)
                  refine value_ (w1 := ?_) (v := ?_) (by rfl) rfl ?_ ?_
                  rotate_left 2
                  ·go_simp
                   constructor
                   ·rfl
                   ·rfl
                  refine hK.out _ _ ?_
                  clear hK K
                  refine norm_ (a' := ?_) ?_ ?_
                  rotate_left
                  ·show Act.put _ (some 104) _ = _
                   simp only [Act.put, List.setIfInBounds_toArray, List.set_cons_zero, List.set_cons_succ, i64_w, i32_w]
                   rfl
                  refine last_ (i := 12) (N := some 105) #[true, true, true, true, true, true, true, true, true, true, true, true, true, false] rfl rfl (one_of HT_.out (by kernel_rfl)) (by decide) (fun K hK => ?_)
                  refine Kd.R_append_step k49 (w0 := w) w.heap.size (by rfl) (.tmp 93) (.tmp 104) 22 49 (.agg #[(.int .i64 0), (.int .i64 0)]) 16 rfl Try.underlying22 info49 rfl (by decide) (by omega) (.slice (some ad74008) x8_1.length co49) x8_1 (⟨rd t74001 x9_1, rd t74001 (ji45)⟩ : S49) [.int .i64 (rd t74001 x9_1), .int .i64 (rd t74001 (ji45))] (fun _ => True) (fun _ => False) rfl rfl ?aP (fun _ hk => hk.elim) ?aF ?aO ?aB ?aS ?aL ?_
                  (case aP => exact k49_mkM _ _ _ (⟨rd t74001 x9_1, rd t74001 (ji45)⟩ : S49))
                  (case aB => exact (by repeat (first | exact HB.out | apply below_alloc | apply pw_below_drewN | apply below_drew1)))
                  (case aF => exact (fun _ _ => trivial))
                  (case aO => exact (HO_8.out))
                  (case aS => exact (below_size (by repeat (first | exact HB.out | apply below_alloc | apply pw_below_drewN | apply below_drew1))))
                  (case aL => have := LMc48.out; omega)
                  intro v74015 w52 ho hb hg hat
                  rw [← Ny74014.out] at ho
                  have n0_ := Aside0.mk (Kd.R_over' (HO_7.out) (Kd.R_typed (HO_8.out)) (by decide) hg)
                  have n1_ := Aside0.mk (hb)
                  have n2_ := Aside0.mk (ho)
                  clear HO_7
                  clear HB
                  clear HO_8
                  have HO_7 := n0_
                  have HB := n1_
                  have HO74016 := n2_
                  clear n0_ n1_ n2_
                  clear ho hb hg hat
                  refine hK.out _ _ ?_
                  clear hK K
                  refine norm_ (a' := ?_) ?_ ?_
                  rotate_left
                  ·show Act.put _ (some 105) _ = _
                   simp only [Act.put, List.setIfInBounds_toArray, List.set_cons_zero, List.set_cons_succ, i64_w, i32_w]
                   rfl
                  refine pure_ (i := 13) (N := some 8) (v := ?_) (a' := ?_) #[true, true, true, true, true, true, true, true, true, true, true, true, true, true] rfl rfl (any_of HT_.out (by kernel_rfl)) (fun _ _ _ h => h) (Or.inl ⟨by rfl, ?_⟩) ?_ ?_
                  rotate_left
                  ·intro w'
                   go_simp
                   with_reducible rfl
                  rotate_left
                  ·simp only [Act.put, List.setIfInBounds_toArray, List.set_cons_zero, List.set_cons_succ, i64_w, i32_w]
                   rfl
                  refine done_ (done_of HT_.out (by kernel_rfl)) ?_
                  try go_wp2
                  go_roundg kj10
                  case measure => have := HK1.out; have := HJ10.out; omega
                  case rel => exact ⟨(y74014), (ji45), (by first | rfl | (simp; done) | (simp only [← hji45] <;> (first | rfl | (simp; done))) | (simp [*]; done)), H', ⟨by have := HK1.out; have := HJ10.out; omega⟩, ⟨HO_7.out⟩, ⟨HO74016.out⟩, ⟨by repeat (first | exact HB.out | apply below_alloc | apply pw_below_drewN | apply below_drew1)⟩⟩
                 ·rw [if_neg c48] at H
                  exact absurd H (by simp)
                ·rw [if_neg c47] at H
                 exact absurd H (by simp)
               ·rw [if_neg c46] at H
                exact absurd H (by simp)
             ·rw [if_neg c35] at H
              exact absurd H (by simp)
            ·rw [if_neg c34] at H
             exact absurd H (by simp)
           ·rw [if_neg c33] at H
            exact absurd H (by simp)
          ·rw [if_neg c32] at H
           exact absurd H (by simp)
         ·rw [if_neg c30] at H
          have c30b0 : decide (0 ≤ (wrap64 ((x8_1.length : Int) - 1))) = false := decide_eq_false c30
          clear c30
          by_cases c53 : 0 ≤ x9_1
          ·rw [if_pos c53] at H
           have c53b0 : decide (0 ≤ x9_1) = true := decide_eq_true c53
           clear c53
           by_cases c54 : x9_1 < (t74001.length : Int)
           ·rw [if_pos c54] at H
            have c54b0 : decide (x9_1 < (t74001.length : Int)) = true := decide_eq_true c54
            clear c54
            obtain ⟨ji55, hji55⟩ : ∃ j_ : Int, (wrap64 (x9_1 + 1)) = j_ := ⟨_, rfl⟩
            replace H : (if 0 ≤ (ji55) then (if (ji55) < (t74001.length : Int) then (if x8_1.length < 8796093022208 then (papermillref04_combine.l0 kj10 l0 l1 a2 t74001 (x8_1 ++ [(⟨rd t74001 x9_1, rd t74001 (ji55)⟩ : S49)]) ji55) else (none)) else (none)) else (none)) = some r := by first | (rw [hji55] at H; exact H) | (simp only [hji55] at H ⊢; exact H)
            (try rw [hji55] at c6b0)
            have hji55w : (IntKind.i64.wrap (x9_1 + 1)) = ji55 := (i64_w _).trans hji55
            by_cases c56 : 0 ≤ (ji55)
            ·rw [if_pos c56] at H
             have c56b0 : decide (0 ≤ (ji55)) = true := decide_eq_true c56
             clear c56
             by_cases c57 : (ji55) < (t74001.length : Int)
             ·rw [if_pos c57] at H
              have c57b0 : decide ((ji55) < (t74001.length : Int)) = true := decide_eq_true c57
              clear c57
              by_cases c58 : x8_1.length < 8796093022208
              ·rw [if_pos c58] at H
               have LMc58 := Aside0.mk c58
               clear c58
               obtain ⟨y74019, hy74019⟩ : ∃ y_ : List (S49), y_ = (x8_1 ++ [(⟨rd t74001 x9_1, rd t74001 (ji55)⟩ : S49)]) := ⟨_, rfl⟩
               replace H : (papermillref04_combine.l0 kj10 l0 l1 a2 t74001 y74019 ji55) = some r := by first | (rw [hy74019]; with_reducible exact H) | (have H2_ := (Option.bind_some _ _).symm.trans H; rw [hy74019]; with_reducible exact H2_) | (have H2_ := (Option.bind_some _ _).symm.trans H; with_reducible exact H2_) | with_reducible exact H | (rw [hy74019]; exact H) | exact H
               have Ny74019 := Aside0.mk hy74019
               clear hy74019
               have H' := Aside0.mk H
               clear H
               obtain ⟨Ao59, co59, eo59⟩ := Kd.R_slice HO_8.out
               subst eo59
               try go_wp2
               have n0_ := Aside0.mk (Kd.R_drew HO_7.out)
               have n1_ := Aside0.mk (Kd.R_drew HO_8.out)
               have n2_ := Aside0.mk (below_drew1 HB.out)
               clear HO_7
               clear HO_8
               clear HB
               have HO_7 := n0_
               have HO_8 := n1_
               have HB := n2_
               clear n0_ n1_ n2_
               refine start_ (n := 14) (S := fun w' => True) (ds := []) #[false, false, false, false, false, false, false, false, false, false, false, false, false, false] (by kernel_rfl) rfl rfl trivial (fun hHeld => ?_); refine with_tabW papermillref04_combine.tab9 papermillref04_combine.bits9 (fun HT_ HW_ => ?_)
               generalize wc.drew = w60 at HO_7 HO_8 HB hHeld ⊢
               refine pure_ (i := 0) (N := some 70) (v := ?_) (a' := ?_) #[true, false, false, false, false, false, false, false, false, false, false, false, false, false] rfl rfl (any_of HT_.out (by kernel_rfl)) (fun _ _ _ h => h) (Or.inl ⟨by rfl, ?_⟩) ?_ ?_
               rotate_left
               ·intro w'
                go_simp
                with_reducible rfl
               rotate_left
               ·simp only [Act.put, List.setIfInBounds_toArray, List.set_cons_zero, List.set_cons_succ, i64_w, i32_w]
                rfl
               refine pure_ (i := 1) (N := some 71) (v := ?_) (a' := ?_) #[true, true, false, false, false, false, false, false, false, false, false, false, false, false] rfl rfl (any_of HT_.out (by kernel_rfl)) (fun _ _ _ h => h) (Or.inl ⟨by rfl, ?_⟩) ?_ ?_
               rotate_left
               ·intro w'
                go_simp
                with_reducible rfl
               rotate_left
               ·simp only [Act.put, List.setIfInBounds_toArray, List.set_cons_zero, List.set_cons_succ, i64_w, i32_w]
                rfl
               refine pure_ (i := 2) (N := some 72) (v := ?_) (a' := ?_) #[true, true, true, false, false, false, false, false, false, false, false, false, false, false] rfl rfl (any_of HT_.out (by kernel_rfl)) (fun _ _ _ h => h) (Or.inl ⟨by rfl, ?_⟩) ?_ ?_
               rotate_left
               ·intro w'
                go_simp
                with_reducible rfl
               rotate_left
               ·simp only [Act.put, List.setIfInBounds_toArray, List.set_cons_zero, List.set_cons_succ, i64_w, i32_w]
                rfl
               refine pure_ (i := 3) (N := some 73) (v := undef) (a' := ?_) #[true, true, true, true, false, false, false, false, false, false, false, false, false, false] rfl rfl (any_of HT_.out (by kernel_rfl)) (fun _ _ _ h => h) (Or.inr ⟨by rfl, rfl⟩) ?_ ?_
               rotate_left
               ·simp only [Act.put, List.setIfInBounds_toArray, List.set_cons_zero, List.set_cons_succ, i64_w, i32_w]
                rfl
               refine pure_ (i := 4) (N := some 74) (v := undef) (a' := ?_) #[true, true, true, true, true, false, false, false, false, false, false, false, false, false] rfl rfl (any_of HT_.out (by kernel_rfl)) (fun _ _ _ h => h) (Or.inr ⟨by rfl, rfl⟩) ?_ ?_
               rotate_left
               ·simp only [Act.put, List.setIfInBounds_toArray, List.set_cons_zero, List.set_cons_succ, i64_w, i32_w]
                rfl
               refine pure_ (i := 5) (N := some 75) (v := undef) (a' := ?_) #[true, true, true, true, true, true, false, false, false, false, false, false, false, false] rfl rfl (any_of HT_.out (by kernel_rfl)) (fun _ _ _ h => h) (Or.inr ⟨by rfl, rfl⟩) ?_ ?_
               rotate_left
               ·simp only [Act.put, List.setIfInBounds_toArray, List.set_cons_zero, List.set_cons_succ, i64_w, i32_w]
                rfl
               refine pure_ (i := 6) (N := some 76) (v := undef) (a' := ?_) #[true, true, true, true, true, true, true, false, false, false, false, false, false, false] rfl rfl (any_of HT_.out (by kernel_rfl)) (fun _ _ _ h => h) (Or.inr ⟨by rfl, rfl⟩) ?_ ?_
               rotate_left
               ·simp only [Act.put, List.setIfInBounds_toArray, List.set_cons_zero, List.set_cons_succ, i64_w, i32_w]
                rfl
               refine pure_ (i := 7) (N := some 77) (v := undef) (a' := ?_) #[true, true, true, true, true, true, true, true, false, false, false, false, false, false] rfl rfl (any_of HT_.out (by kernel_rfl)) (fun _ _ _ h => h) (Or.inr ⟨by rfl, rfl⟩) ?_ ?_
               rotate_left
               ·simp only [Act.put, List.setIfInBounds_toArray, List.set_cons_zero, List.set_cons_succ, i64_w, i32_w]
                rfl
               refine pure_ (i := 8) (N := some 78) (v := undef) (a' := ?_) #[true, true, true, true, true, true, true, true, true, false, false, false, false, false] rfl rfl (any_of HT_.out (by kernel_rfl)) (fun _ _ _ h => h) (Or.inr ⟨by rfl, rfl⟩) ?_ ?_
               rotate_left
               ·simp only [Act.put, List.setIfInBounds_toArray, List.set_cons_zero, List.set_cons_succ, i64_w, i32_w]
                rfl
               refine pure_ (i := 9) (N := some 79) (v := undef) (a' := ?_) #[true, true, true, true, true, true, true, true, true, true, false, false, false, false] rfl rfl (any_of HT_.out (by kernel_rfl)) (fun _ _ _ h => h) (Or.inr ⟨by rfl, rfl⟩) ?_ ?_
               rotate_left
               ·simp only [Act.put, List.setIfInBounds_toArray, List.set_cons_zero, List.set_cons_succ, i64_w, i32_w]
                rfl
               refine pure_ (i := 10) (N := some 80) (v := undef) (a' := ?_) #[true, true, true, true, true, true, true, true, true, true, true, false, false, false] rfl rfl (any_of HT_.out (by kernel_rfl)) (fun _ _ _ h => h) (Or.inr ⟨by rfl, rfl⟩) ?_ ?_
               rotate_left
               ·simp only [Act.put, List.setIfInBounds_toArray, List.set_cons_zero, List.set_cons_succ, i64_w, i32_w]
                rfl
               refine pure_ (i := 11) (N := some 81) (v := undef) (a' := ?_) #[true, true, true, true, true, true, true, true, true, true, true, true, false, false] rfl rfl (any_of HT_.out (by kernel_rfl)) (fun _ _ _ h => h) (Or.inr ⟨by rfl, rfl⟩) ?_ ?_
               rotate_left
               ·simp only [Act.put, List.setIfInBounds_toArray, List.set_cons_zero, List.set_cons_succ, i64_w, i32_w]
                rfl
               refine pure_ (i := 12) (N := some 82) (v := undef) (a' := ?_) #[true, true, true, true, true, true, true, true, true, true, true, true, true, false] rfl rfl (any_of HT_.out (by kernel_rfl)) (fun _ _ _ h => h) (Or.inr ⟨by rfl, rfl⟩) ?_ ?_
               rotate_left
               ·simp only [Act.put, List.setIfInBounds_toArray, List.set_cons_zero, List.set_cons_succ, i64_w, i32_w]
                rfl
               refine pure_ (i := 13) (N := some 83) (v := ?_) (a' := ?_) #[true, true, true, true, true, true, true, true, true, true, true, true, true, true] rfl rfl (any_of HT_.out (by kernel_rfl)) (fun _ _ _ h => h) (Or.inl ⟨by rfl, ?_⟩) ?_ ?_
               rotate_left
               ·intro w'
                go_simp
                with_reducible rfl
               rotate_left
               ·simp only [Act.put, List.setIfInBounds_toArray, List.set_cons_zero, List.set_cons_succ, i64_w, i32_w]
                rfl
               refine done_ (done_of HT_.out (by kernel_rfl)) ?_
               try go_wp2
               have n0_ := Aside0.mk (Kd.R_drew HO_7.out)
               have n1_ := Aside0.mk (Kd.R_drew HO_8.out)
               have n2_ := Aside0.mk (below_drew1 HB.out)
               clear HO_7
               clear HO_8
               clear HB
               have HO_7 := n0_
               have HO_8 := n1_
               have HB := n2_
               clear n0_ n1_ n2_
               have p74017 : 0 ≤ (x9_1 : Int) := of_decide_eq_true (by assumption)
               have q74017 : x9_1 < (t74001.length : Int) := of_decide_eq_true (by assumption)
               obtain ⟨ad74017, e74017, hx74017_0⟩ := Kd.at_int (Kd.R_reads' HO_7.out).2.2 x9_1 p74017 q74017
               obtain rfl : ad74004 = ad74017 := (by injection e74017)
               replace p74017 := eq_true p74017
               replace q74017 := eq_true q74017
               have p74018 : 0 ≤ ((ji55) : Int) := of_decide_eq_true (by assumption)
               have q74018 : (ji55) < (t74001.length : Int) := of_decide_eq_true (by assumption)
               obtain ⟨ad74018, e74018, hx74018_0⟩ := Kd.at_int (Kd.R_reads' HO_7.out).2.2 (ji55) p74018 q74018
               obtain rfl : ad74004 = ad74018 := (by injection e74018)
               replace p74018 := eq_true p74018
               replace q74018 := eq_true q74018
               refine start_ (n := 14) (S := fun w' => w'.cell? (ad74004.add (x9_1).toNat) = some (.int .i64 (rd t74001 x9_1)) ∧ w'.cell? (ad74004.add ((ji55)).toNat) = some (.int .i64 (rd t74001 (ji55)))) (ds := [11, 12]) #[false, false, false, false, false, false, false, false, false, false, false, false, false, false] (by kernel_rfl) rfl rfl ⟨hx74017_0, hx74018_0⟩ (fun hHeld => ?_); refine with_tabW papermillref04_combine.tab11 papermillref04_combine.bits11 (fun HT_ HW_ => ?_)
               generalize w60.drew = w61 at HO_7 HO_8 HB hx74017_0 hx74018_0 hHeld ⊢
               refine pure_ (i := 0) (N := some 93) (v := ?_) (a' := ?_) #[true, false, false, false, false, false, false, false, false, false, false, false, false, false] rfl rfl (any_of HT_.out (by kernel_rfl)) (fun _ _ _ h => h) (Or.inl ⟨by rfl, ?_⟩) ?_ ?_
               rotate_left
               ·intro w'
                go_simp
                with_reducible rfl
               rotate_left
               ·simp only [Act.put, List.setIfInBounds_toArray, List.set_cons_zero, List.set_cons_succ, i64_w, i32_w]
                rfl
               refine pure_ (i := 1) (N := some 94) (v := ?_) (a' := ?_) #[true, true, false, false, false, false, false, false, false, false, false, false, false, false] rfl rfl (any_of HT_.out (by kernel_rfl)) (fun _ _ _ h => h) (Or.inl ⟨by rfl, ?_⟩) ?_ ?_
               rotate_left
               ·intro w'
                go_simp
                with_reducible rfl
               rotate_left
               ·simp only [Act.put, List.setIfInBounds_toArray, List.set_cons_zero, List.set_cons_succ, i64_w, i32_w]
                rfl
               refine pure_ (i := 2) (N := some 95) (v := ?_) (a' := ?_) #[true, true, true, false, false, false, false, false, false, false, false, false, false, false] rfl rfl (any_of HT_.out (by kernel_rfl)) (fun _ _ _ h => h) (Or.inl ⟨by rfl, ?_⟩) ?_ ?_
               rotate_left
               ·intro w'
                go_simp
                with_reducible rfl
               rotate_left
               ·simp only [Act.put, List.setIfInBounds_toArray, List.set_cons_zero, List.set_cons_succ, i64_w, i32_w]
                rfl
               refine pure_ (i := 3) (N := some 96) (v := ?_) (a' := ?_) #[true, true, true, true, false, false, false, false, false, false, false, false, false, false] rfl rfl (any_of HT_.out (by kernel_rfl)) (fun _ _ _ h => h) (Or.inl ⟨by rfl, ?_⟩) ?_ ?_
               rotate_left
               ·intro w'
                go_simp
                with_reducible rfl
               rotate_left
               ·simp only [Act.put, List.setIfInBounds_toArray, List.set_cons_zero, List.set_cons_succ, i64_w, i32_w]
                rfl
               refine pure_ (i := 5) (N := some 98) (v := ?_) (a' := ?_) #[true, true, true, true, false, true, false, false, false, false, false, false, false, false] rfl rfl (any_of HT_.out (by kernel_rfl)) (fun _ _ _ h => h) (Or.inl ⟨by rfl, ?_⟩) ?_ ?_
               rotate_left
               ·intro w'
                go_simp
                with_reducible rfl
               rotate_left
               ·simp only [Act.put, List.setIfInBounds_toArray, List.set_cons_zero, List.set_cons_succ, i64_w, i32_w]
                rfl
               refine pure_ (i := 6) (N := some 99) (v := ?_) (a' := ?_) #[true, true, true, true, false, true, true, false, false, false, false, false, false, false] rfl rfl (any_of HT_.out (by kernel_rfl)) (fun _ _ _ h => h) (Or.inl ⟨by rfl, ?_⟩) ?_ ?_
               rotate_left
               ·intro w'
                go_simp
                with_reducible rfl
               rotate_left
               ·simp only [Act.put, List.setIfInBounds_toArray, List.set_cons_zero, List.set_cons_succ, i64_w, i32_w]
                rfl
               refine pure_ (i := 7) (N := some 100) (v := ?_) (a' := ?_) #[true, true, true, true, false, true, true, true, false, false, false, false, false, false] rfl rfl (any_of HT_.out (by kernel_rfl)) (fun _ _ _ h => h) (Or.inl ⟨by rfl, ?_⟩) ?_ ?_
               rotate_left
               ·intro w'
                go_simp
                with_reducible rfl
               rotate_left
               ·simp only [Act.put, List.setIfInBounds_toArray, List.set_cons_zero, List.set_cons_succ, i64_w, i32_w]
                rfl
               refine pure_ (i := 8) (N := some 101) (v := ?_) (a' := ?_) #[true, true, true, true, false, true, true, true, true, false, false, false, false, false] rfl rfl (any_of HT_.out (by kernel_rfl)) (fun _ _ _ h => h) (Or.inl ⟨by rfl, ?_⟩) ?_ ?_
               rotate_left
               ·intro w'
                go_simp
                with_reducible rfl
               rotate_left
               ·simp only [Act.put, List.setIfInBounds_toArray, List.set_cons_zero, List.set_cons_succ, i64_w, i32_w]
                rfl
               refine take_ (i := 4) (N := some 97) (v := ?_) (a' := ?_) #[true, true, true, true, true, true, true, true, true, false, false, false, false, false] rfl rfl (take_ofW HT_.out HW_.out (by kernel_rfl)) (fun _ _ _ h => h) (Or.inl ⟨by rfl, ?_⟩) hHeld ?_ ?_
               rotate_left
               ·rintro w' ⟨s0, s1⟩
                go_simp
                with_reducible rfl
               rotate_left
               ·simp only [Act.put, List.setIfInBounds_toArray, List.set_cons_zero, List.set_cons_succ, i64_w, i32_w]
                rfl
               refine take_ (i := 9) (N := some 102) (v := ?_) (a' := ?_) #[true, true, true, true, true, true, true, true, true, true, false, false, false, false] rfl rfl (take_ofW HT_.out HW_.out (by kernel_rfl)) (fun _ _ _ h => h) (Or.inl ⟨by rfl, ?_⟩) hHeld ?_ ?_
               rotate_left
               ·rintro w' ⟨s0, s1⟩
                go_simp
                with_reducible rfl
               rotate_left
               ·simp only [Act.put, List.setIfInBounds_toArray, List.set_cons_zero, List.set_cons_succ, i64_w, i32_w]
                rfl
               refine pure_ (i := 10) (N := some 103) (v := ?_) (a' := ?_) #[true, true, true, true, true, true, true, true, true, true, true, false, false, false] rfl rfl (any_of HT_.out (by kernel_rfl)) (fun _ _ _ h => h) (Or.inl ⟨by rfl, ?_⟩) ?_ ?_
               rotate_left
               ·intro w'
                go_simp
                with_reducible rfl
               rotate_left
               ·simp only [Act.put, List.setIfInBounds_toArray, List.set_cons_zero, List.set_cons_succ, i64_w, i32_w]
                rfl
               refine last_ (i := 11) (N := some 104) #[true, true, true, true, true, true, true, true, true, true, true, true, false, false] rfl rfl (one_of HT_.out (by kernel_rfl)) (by decide) (fun K hK => ?_)
               refine value_ (w1 := ?_) (v := ?_) (by rfl) rfl ?_ ?_
               rotate_left 2
               ·go_simp
                constructor
                ·rfl
                ·rfl
               refine hK.out _ _ ?_
               clear hK K
               refine norm_ (a' := ?_) ?_ ?_
               rotate_left
               ·show Act.put _ (some 104) _ = _
                simp only [Act.put, List.setIfInBounds_toArray, List.set_cons_zero, List.set_cons_succ, i64_w, i32_w]
                rfl
               refine last_ (i := 12) (N := some 105) #[true, true, true, true, true, true, true, true, true, true, true, true, true, false] rfl rfl (one_of HT_.out (by kernel_rfl)) (by decide) (fun K hK => ?_)
               refine Kd.R_append_step k49 (w0 := w) w.heap.size (by rfl) (.tmp 93) (.tmp 104) 22 49 (.agg #[(.int .i64 0), (.int .i64 0)]) 16 rfl Try.underlying22 info49 rfl (by decide) (by omega) (.slice Ao59 x8_1.length co59) x8_1 (⟨rd t74001 x9_1, rd t74001 (ji55)⟩ : S49) [.int .i64 (rd t74001 x9_1), .int .i64 (rd t74001 (ji55))] (fun _ => True) (fun _ => False) rfl rfl ?aP (fun _ hk => hk.elim) ?aF ?aO ?aB ?aS ?aL ?_
               (case aP => exact k49_mkM _ _ _ (⟨rd t74001 x9_1, rd t74001 (ji55)⟩ : S49))
               (case aB => exact (by repeat (first | exact HB.out | apply below_alloc | apply pw_below_drewN | apply below_drew1)))
               (case aF => exact (fun _ _ => trivial))
               (case aO => exact (HO_8.out))
               (case aS => exact (below_size (by repeat (first | exact HB.out | apply below_alloc | apply pw_below_drewN | apply below_drew1))))
               (case aL => have := LMc58.out; omega)
               intro v74020 w62 ho hb hg hat
               rw [← Ny74019.out] at ho
               have n0_ := Aside0.mk (Kd.R_over' (HO_7.out) (Kd.R_typed (HO_8.out)) (by decide) hg)
               have n1_ := Aside0.mk (hb)
               have n2_ := Aside0.mk (ho)
               clear HO_7
               clear HB
               clear HO_8
               have HO_7 := n0_
               have HB := n1_
               have HO74021 := n2_
               clear n0_ n1_ n2_
               clear ho hb hg hat
               refine hK.out _ _ ?_
               clear hK K
               refine norm_ (a' := ?_) ?_ ?_
               rotate_left
               ·show Act.put _ (some 105) _ = _
                simp only [Act.put, List.setIfInBounds_toArray, List.set_cons_zero, List.set_cons_succ, i64_w, i32_w]
                rfl
               refine pure_ (i := 13) (N := some 8) (v := ?_) (a' := ?_) #[true, true, true, true, true, true, true, true, true, true, true, true, true, true] rfl rfl (any_of HT_.out (by kernel_rfl)) (fun _ _ _ h => h) (Or.inl ⟨by rfl, ?_⟩) ?_ ?_
               rotate_left
               ·intro w'
                go_simp
                with_reducible rfl
               rotate_left
               ·simp only [Act.put, List.setIfInBounds_toArray, List.set_cons_zero, List.set_cons_succ, i64_w, i32_w]
                rfl
               refine done_ (done_of HT_.out (by kernel_rfl)) ?_
               try go_wp2
               go_roundg kj10
               case measure => have := HK1.out; have := HJ10.out; omega
               case rel => exact ⟨(y74019), (ji55), (by first | rfl | (simp; done) | (simp only [← hji55] <;> (first | rfl | (simp; done))) | (simp [*]; done)), H', ⟨by have := HK1.out; have := HJ10.out; omega⟩, ⟨HO_7.out⟩, ⟨HO74021.out⟩, ⟨by repeat (first | exact HB.out | apply below_alloc | apply pw_below_drewN | apply below_drew1)⟩⟩
              ·rw [if_neg c58] at H
               exact absurd H (by simp)
             ·rw [if_neg c57] at H
              exact absurd H (by simp)
            ·rw [if_neg c56] at H
             exact absurd H (by simp)
           ·rw [if_neg c54] at H
            exact absurd H (by simp)
          ·rw [if_neg c53] at H
           exact absurd H (by simp)
     ·rw [if_neg c8] at H
      exact absurd H (by simp)
    ·rw [if_neg c7] at H
     exact absurd H (by simp)
   ·rw [if_neg c6] at H
    have c6b0 : decide ((wrap64 (x9_1 + 1)) < (t74001.length : Int)) = false := decide_eq_false c6
    clear c6
    obtain rfl := Option.some.inj H
    obtain ⟨Ao63, co63, eo63⟩ := Kd.R_slice HO_7.out
    subst eo63
    go_wp2
    go_ret
    exact ⟨_, by first | rfl | (simp [errW_none, errW_some] <;> rfl) | (simp [*, errW_none, errW_some] <;> rfl), by exact HO_8.out, by repeat (first | exact HB.out | apply below_alloc | apply pw_below_drewN | apply below_drew1)⟩

end Go.Proofs.Ytjkakgkiikjdmaa.G

namespace Go.Proofs.Ytjkakgkiikjdmaa.G
open Go.RowKit Go.Proofs.YtjkakgkiikjdmaaW.PrintWords Go.Proofs.YtjkakgkiikjdmaaW.PrintLast Go.Proofs.YtjkakgkiikjdmaaW.PrintMore
attribute [local go_sem] max2_int min2_int max_two min_two max_three min_three max_four min_four   -- for this text's walks alone
set_option linter.unusedVariables false
set_option linter.unusedSimpArgs false

def papermillref04_both.f (k : Nat) (l0 : List (S49)) (l1 : List (S49)) (a2 : Int) : Option ((List (S49)) × Int) := (papermillref04_Check.f k l0).bind fun t60001 => (if t60001 = 0 then ((papermillref04_Check.f k l1).bind fun t60002 => (if t60002 = 0 then ((papermillref04_combine.f k l0 l1 a2).bind fun t60003 => (if (t60003.length : Int) > 256 then (some (([] : List (S49)), 8)) else (some (t60003, 0)))) else (some (([] : List (S49)), t60002)))) else (some (([] : List (S49)), t60001)))
theorem papermillref04_both.mono : ∀ a0 a1 a2 k, LeO (papermillref04_both.f k a0 a1 a2) (papermillref04_both.f (k + 1) a0 a1 a2) := by
 intro a0 a1 a2 k
 unfold papermillref04_both.f
 repeat' first
   | (with_reducible exact papermillref04_Check.mono _ _)
   | (with_reducible exact papermillref04_combine.mono _ _ _ _)
   | (with_reducible exact LeO.refl _)
   | (with_reducible exact LeO.none _)
   | (with_reducible refine LeO.ite ?_ ?_)
   | (with_reducible refine LeO.bind ?_ (fun _ => ?_))
   | exact papermillref04_Check.mono _ _
   | exact papermillref04_combine.mono _ _ _ _
   | exact LeO.none _
   | refine LeO.ite ?_ ?_
   | refine LeO.bind ?_ (fun _ => ?_)
set_option maxHeartbeats 8000000 in
set_option maxRecDepth 100000 in
theorem papermillref04_both.calls (k : Nat) (A0 : Option Addr) (c0 : Nat) (l0 : List (S49)) (A1 : Option Addr) (c1 : Nat) (l1 : List (S49)) (a2 : Int) (r1 : List (S49)) (r2 : Int) (w : World) (hr0 : Kd.C k49 w A0 l0.length l0) (hc0 : l0.length ≤ c0) (hr1 : Kd.C k49 w A1 l1.length l1) (hc1 : l1.length ≤ c1) (h : papermillref04_both.f k l0 l1 a2 = some (r1, r2)) :
  Calls Try.prog 59 #[.slice A0 l0.length c0, .slice A1 l1.length c1, .int .i64 a2] w fun e w' => ∃ v0_ : Value, e = .returned (.tuple #[v0_, .int .i64 r2]) ∧ Kd.R k49 49 w' w.heap.size (fun _ => True) v0_ r1 ∧ Below w.heap.size w w' := by
 have HR0 := Aside0.mk hr0
 have HC0 := Aside0.mk hc0
 clear hr0 hc0
 have HR1 := Aside0.mk hr1
 have HC1 := Aside0.mk hc1
 clear hr1 hc1
 have HB := Aside0.mk (Below.refl w.heap.size w)
 have H : ((papermillref04_Check.f k l0).bind fun t60001 => (if t60001 = 0 then ((papermillref04_Check.f k l1).bind fun t60002 => (if t60002 = 0 then ((papermillref04_combine.f k l0 l1 a2).bind fun t60003 => (if (t60003.length : Int) > 256 then (some (([] : List (S49)), 8)) else (some (t60003, 0)))) else (some (([] : List (S49)), t60002)))) else (some (([] : List (S49)), t60001)))) = some (r1, r2) := h
 clear h
 replace H := Option.bind_eq_some_iff.mp H
 obtain ⟨t60001, A40, H⟩ := H
 replace H : (if t60001 = 0 then ((papermillref04_Check.f k l1).bind fun t60002 => (if t60002 = 0 then ((papermillref04_combine.f k l0 l1 a2).bind fun t60003 => (if (t60003.length : Int) > 256 then (some (([] : List (S49)), 8)) else (some (t60003, 0)))) else (some (([] : List (S49)), t60002)))) else (some (([] : List (S49)), t60001))) = some (r1, r2) := H
 have A4 := Aside0.mk A40
 clear A40
 by_cases c5 : t60001 = 0
 ·rw [if_pos c5] at H
  have c5b0 : (t60001 == 0) = true := beq_iff_eq.mpr c5
  have c5b1 : (t60001 != 0) = false := bne_eq_false_iff_eq.mpr c5
  clear c5
  replace H := Option.bind_eq_some_iff.mp H
  obtain ⟨t60002, A60, H⟩ := H
  replace H : (if t60002 = 0 then ((papermillref04_combine.f k l0 l1 a2).bind fun t60003 => (if (t60003.length : Int) > 256 then (some (([] : List (S49)), 8)) else (some (t60003, 0)))) else (some (([] : List (S49)), t60002))) = some (r1, r2) := H
  have A6 := Aside0.mk A60
  clear A60
  by_cases c7 : t60002 = 0
  ·rw [if_pos c7] at H
   have c7b0 : (t60002 == 0) = true := beq_iff_eq.mpr c7
   have c7b1 : (t60002 != 0) = false := bne_eq_false_iff_eq.mpr c7
   clear c7
   replace H := Option.bind_eq_some_iff.mp H
   obtain ⟨t60003, A80, H⟩ := H
   replace H : (if (t60003.length : Int) > 256 then (some (([] : List (S49)), 8)) else (some (t60003, 0))) = some (r1, r2) := H
   have A8 := Aside0.mk A80
   clear A80
   by_cases c9 : (t60003.length : Int) > 256
   ·rw [if_pos c9] at H
    have c9b0 : decide (256 < (t60003.length : Int)) = true := decide_eq_true c9
    have c9b1 : decide (256 < t60003.length) = true := decide_eq_true (by omega)
    clear c9
    simp only [Option.some.injEq, Prod.mk.injEq] at H
    obtain ⟨rfl, rfl⟩ := H
    go_enter Try.func59, Try.ntmps59
    go_wp2_with (first | ((with_reducible refine gate_callee (f := 72) rfl ?_); refine goesL_ (some 12) rfl rfl Try.func72 (by kernel_rfl) rfl #[.slice A0 l0.length c0] rfl (by (try simp only [List.map_toArray, List.map_cons, List.map_nil]); first | done | rfl | (simp only [List.length_drop, List.length_take]; rfl)) ?_; (with_reducible refine (papermillref04_Check.calls k _ _ l0 t60001 _ ?side1 ?side2 A4.out).mono ?_); (case side1 => exact HR0.out); (case side2 => exact HC0.out); rintro e w' ⟨rfl, ⟨nd, rfl⟩⟩; refine ⟨_, rfl, ?_⟩) | ((with_reducible refine gate_callee (f := 72) rfl ?_); refine goesL_ (some 17) rfl rfl Try.func72 (by kernel_rfl) rfl #[.slice A1 l1.length c1] rfl (by (try simp only [List.map_toArray, List.map_cons, List.map_nil]); first | done | rfl | (simp only [List.length_drop, List.length_take]; rfl)) ?_; (with_reducible refine (papermillref04_Check.calls k _ _ l1 t60002 _ ?side1 ?side2 A6.out).mono ?_); (case side1 => exact HR1.out); (case side2 => exact HC1.out); rintro e w' ⟨rfl, ⟨nd, rfl⟩⟩; refine ⟨_, rfl, ?_⟩) | ((with_reducible refine gate_callee (f := 73) rfl ?_); refine goesL_ (some 24) rfl rfl Try.func73 (by kernel_rfl) rfl #[.slice A0 l0.length c0, .slice A1 l1.length c1, .int .i64 a2] rfl (by (try simp only [List.map_toArray, List.map_cons, List.map_nil]); first | done | rfl | (simp only [List.length_drop, List.length_take]; rfl)) ?_; (with_reducible refine (papermillref04_combine.calls k _ _ l0 _ _ l1 a2 t60003 _ ?side1 ?side2 ?side3 ?side4 A8.out).mono ?_); (case side1 => exact HR0.out); (case side2 => exact HC0.out); (case side3 => exact HR1.out); (case side4 => exact HC1.out); rintro e w10 ⟨v60004, rfl, ho0, hb⟩; refine ⟨_, rfl, ?_⟩; have n0_ := Aside0.mk (Kd.R_lower ho0 (below_size (by repeat (first | exact HB.out | apply below_alloc | apply pw_below_drewN | apply below_drew1)))); have n1_ := Aside0.mk (below_step (by repeat (first | exact HB.out | apply below_alloc | apply pw_below_drewN | apply below_drew1)) hb); clear HB; have HO60005 := n0_; have HB := n1_; clear n0_ n1_; (try clear hb); (try clear hb2); (try clear hk); (try clear hi); (try clear ho0); obtain ⟨Ao11, co11, eo11⟩ := Kd.R_slice HO60005.out; subst eo11))
    go_ret2
    exact ⟨_, by first | rfl | (simp [errW_none, errW_some] <;> rfl) | (simp [*, errW_none, errW_some] <;> rfl), by first | exact Kd.R_nil _ _ _ _ _ | exact Kd.N_nil _ _ _ _ _ | exact Kd.V_nil _ _ _ _ _ | exact Kd.Q_nil _ _ _ _ _ | exact Kd.S_nil _ _ _ _ _, by repeat (first | exact HB.out | apply below_alloc | apply pw_below_drewN | apply below_drew1)⟩
   ·rw [if_neg c9] at H
    have c9b0 : decide (256 < (t60003.length : Int)) = false := decide_eq_false c9
    have c9b1 : decide (256 < t60003.length) = false := decide_eq_false (by omega)
    clear c9
    simp only [Option.some.injEq, Prod.mk.injEq] at H
    obtain ⟨rfl, rfl⟩ := H
    go_enter Try.func59, Try.ntmps59
    go_wp2_with (first | ((with_reducible refine gate_callee (f := 72) rfl ?_); refine goesL_ (some 12) rfl rfl Try.func72 (by kernel_rfl) rfl #[.slice A0 l0.length c0] rfl (by (try simp only [List.map_toArray, List.map_cons, List.map_nil]); first | done | rfl | (simp only [List.length_drop, List.length_take]; rfl)) ?_; (with_reducible refine (papermillref04_Check.calls k _ _ l0 t60001 _ ?side1 ?side2 A4.out).mono ?_); (case side1 => exact HR0.out); (case side2 => exact HC0.out); rintro e w' ⟨rfl, ⟨nd, rfl⟩⟩; refine ⟨_, rfl, ?_⟩) | ((with_reducible refine gate_callee (f := 72) rfl ?_); refine goesL_ (some 17) rfl rfl Try.func72 (by kernel_rfl) rfl #[.slice A1 l1.length c1] rfl (by (try simp only [List.map_toArray, List.map_cons, List.map_nil]); first | done | rfl | (simp only [List.length_drop, List.length_take]; rfl)) ?_; (with_reducible refine (papermillref04_Check.calls k _ _ l1 t60002 _ ?side1 ?side2 A6.out).mono ?_); (case side1 => exact HR1.out); (case side2 => exact HC1.out); rintro e w' ⟨rfl, ⟨nd, rfl⟩⟩; refine ⟨_, rfl, ?_⟩) | ((with_reducible refine gate_callee (f := 73) rfl ?_); refine goesL_ (some 24) rfl rfl Try.func73 (by kernel_rfl) rfl #[.slice A0 l0.length c0, .slice A1 l1.length c1, .int .i64 a2] rfl (by (try simp only [List.map_toArray, List.map_cons, List.map_nil]); first | done | rfl | (simp only [List.length_drop, List.length_take]; rfl)) ?_; (with_reducible refine (papermillref04_combine.calls k _ _ l0 _ _ l1 a2 t60003 _ ?side1 ?side2 ?side3 ?side4 A8.out).mono ?_); (case side1 => exact HR0.out); (case side2 => exact HC0.out); (case side3 => exact HR1.out); (case side4 => exact HC1.out); rintro e w12 ⟨v60004, rfl, ho0, hb⟩; refine ⟨_, rfl, ?_⟩; have n0_ := Aside0.mk (Kd.R_lower ho0 (below_size (by repeat (first | exact HB.out | apply below_alloc | apply pw_below_drewN | apply below_drew1)))); have n1_ := Aside0.mk (below_step (by repeat (first | exact HB.out | apply below_alloc | apply pw_below_drewN | apply below_drew1)) hb); clear HB; have HO60005 := n0_; have HB := n1_; clear n0_ n1_; (try clear hb); (try clear hb2); (try clear hk); (try clear hi); (try clear ho0); obtain ⟨Ao13, co13, eo13⟩ := Kd.R_slice HO60005.out; subst eo13))
    go_ret2
    exact ⟨_, by first | rfl | (simp [errW_none, errW_some] <;> rfl) | (simp [*, errW_none, errW_some] <;> rfl), by exact HO60005.out, by repeat (first | exact HB.out | apply below_alloc | apply pw_below_drewN | apply below_drew1)⟩
  ·rw [if_neg c7] at H
   have c7b0 : (t60002 == 0) = false := beq_eq_false_iff_ne.mpr c7
   have c7b1 : (t60002 != 0) = true := bne_iff_ne.mpr c7
   simp only [Option.some.injEq, Prod.mk.injEq] at H
   obtain ⟨rfl, rfl⟩ := H
   go_enter Try.func59, Try.ntmps59
   go_wp2_with (first | ((with_reducible refine gate_callee (f := 72) rfl ?_); refine goesL_ (some 12) rfl rfl Try.func72 (by kernel_rfl) rfl #[.slice A0 l0.length c0] rfl (by (try simp only [List.map_toArray, List.map_cons, List.map_nil]); first | done | rfl | (simp only [List.length_drop, List.length_take]; rfl)) ?_; (with_reducible refine (papermillref04_Check.calls k _ _ l0 t60001 _ ?side1 ?side2 A4.out).mono ?_); (case side1 => exact HR0.out); (case side2 => exact HC0.out); rintro e w' ⟨rfl, ⟨nd, rfl⟩⟩; refine ⟨_, rfl, ?_⟩) | ((with_reducible refine gate_callee (f := 72) rfl ?_); refine goesL_ (some 17) rfl rfl Try.func72 (by kernel_rfl) rfl #[.slice A1 l1.length c1] rfl (by (try simp only [List.map_toArray, List.map_cons, List.map_nil]); first | done | rfl | (simp only [List.length_drop, List.length_take]; rfl)) ?_; (with_reducible refine (papermillref04_Check.calls k _ _ l1 t60002 _ ?side1 ?side2 A6.out).mono ?_); (case side1 => exact HR1.out); (case side2 => exact HC1.out); rintro e w' ⟨rfl, ⟨nd, rfl⟩⟩; refine ⟨_, rfl, ?_⟩))
   go_ret2
   exact ⟨_, by first | rfl | (simp [errW_none, errW_some] <;> rfl) | (simp [*, errW_none, errW_some] <;> rfl), by first | exact Kd.R_nil _ _ _ _ _ | exact Kd.N_nil _ _ _ _ _ | exact Kd.V_nil _ _ _ _ _ | exact Kd.Q_nil _ _ _ _ _ | exact Kd.S_nil _ _ _ _ _, by repeat (first | exact HB.out | apply below_alloc | apply pw_below_drewN | apply below_drew1)⟩
 ·rw [if_neg c5] at H
  have c5b0 : (t60001 == 0) = false := beq_eq_false_iff_ne.mpr c5
  have c5b1 : (t60001 != 0) = true := bne_iff_ne.mpr c5
  simp only [Option.some.injEq, Prod.mk.injEq] at H
  obtain ⟨rfl, rfl⟩ := H
  go_enter Try.func59, Try.ntmps59
  go_wp2_with (first | ((with_reducible refine gate_callee (f := 72) rfl ?_); refine goesL_ (some 12) rfl rfl Try.func72 (by kernel_rfl) rfl #[.slice A0 l0.length c0] rfl (by (try simp only [List.map_toArray, List.map_cons, List.map_nil]); first | done | rfl | (simp only [List.length_drop, List.length_take]; rfl)) ?_; (with_reducible refine (papermillref04_Check.calls k _ _ l0 t60001 _ ?side1 ?side2 A4.out).mono ?_); (case side1 => exact HR0.out); (case side2 => exact HC0.out); rintro e w' ⟨rfl, ⟨nd, rfl⟩⟩; refine ⟨_, rfl, ?_⟩))
  go_ret2
  exact ⟨_, by first | rfl | (simp [errW_none, errW_some] <;> rfl) | (simp [*, errW_none, errW_some] <;> rfl), by first | exact Kd.R_nil _ _ _ _ _ | exact Kd.N_nil _ _ _ _ _ | exact Kd.V_nil _ _ _ _ _ | exact Kd.Q_nil _ _ _ _ _ | exact Kd.S_nil _ _ _ _ _, by repeat (first | exact HB.out | apply below_alloc | apply pw_below_drewN | apply below_drew1)⟩

end Go.Proofs.Ytjkakgkiikjdmaa.G

namespace Go.Proofs.Ytjkakgkiikjdmaa.G
open Go.RowKit Go.Proofs.YtjkakgkiikjdmaaW.PrintWords Go.Proofs.YtjkakgkiikjdmaaW.PrintLast Go.Proofs.YtjkakgkiikjdmaaW.PrintMore
attribute [local go_sem] max2_int min2_int max_two min_two max_three min_three max_four min_four   -- for this text's walks alone
set_option linter.unusedVariables false
set_option linter.unusedSimpArgs false

def papermillref04_Norm.f (k : Nat) (l0 : List (S49)) : Option ((List (S49)) × Int) := (papermillref04_both.f k l0 ([] : List (S49)) 0).bind fun bt39001 => (some (bt39001.1, bt39001.2))
theorem papermillref04_Norm.mono : ∀ a0 k, LeO (papermillref04_Norm.f k a0) (papermillref04_Norm.f (k + 1) a0) := by
 intro a0 k
 unfold papermillref04_Norm.f
 repeat' first
   | (with_reducible exact papermillref04_both.mono _ _ _ _)
   | (with_reducible exact LeO.refl _)
   | (with_reducible exact LeO.none _)
   | (with_reducible refine LeO.ite ?_ ?_)
   | (with_reducible refine LeO.bind ?_ (fun _ => ?_))
   | exact papermillref04_both.mono _ _ _ _
   | exact LeO.none _
   | refine LeO.ite ?_ ?_
   | refine LeO.bind ?_ (fun _ => ?_)
set_option maxHeartbeats 8000000 in
set_option maxRecDepth 100000 in
theorem papermillref04_Norm.calls (k : Nat) (A0 : Option Addr) (c0 : Nat) (l0 : List (S49)) (r1 : List (S49)) (r2 : Int) (w : World) (hr0 : Kd.C k49 w A0 l0.length l0) (hc0 : l0.length ≤ c0) (h : papermillref04_Norm.f k l0 = some (r1, r2)) :
  Calls Try.prog 38 #[.slice A0 l0.length c0] w fun e w' => ∃ v0_ : Value, e = .returned (.tuple #[v0_, .int .i64 r2]) ∧ Kd.R k49 49 w' w.heap.size (fun _ => True) v0_ r1 ∧ Below w.heap.size w w' := by
 have HR0 := Aside0.mk hr0
 have HC0 := Aside0.mk hc0
 clear hr0 hc0
 have HB := Aside0.mk (Below.refl w.heap.size w)
 have H : ((papermillref04_both.f k l0 ([] : List (S49)) 0).bind fun bt39001 => (some (bt39001.1, bt39001.2))) = some (r1, r2) := h
 clear h
 replace H := Option.bind_eq_some_iff.mp H
 obtain ⟨⟨t39001, t39002⟩, A20, H⟩ := H
 replace H : (some (t39001, t39002)) = some (r1, r2) := H
 have A2 := Aside0.mk A20
 clear A20
 simp only [Option.some.injEq, Prod.mk.injEq] at H
 obtain ⟨rfl, rfl⟩ := H
 go_enter Try.func38, Try.ntmps38
 go_wp2_with (first | ((with_reducible refine gate_callee (f := 59) rfl ?_); refine goesL_ (some 5) rfl rfl Try.func59 (by kernel_rfl) rfl #[.slice A0 l0.length c0, .slice none 0 0, .int .i64 0] rfl (by (try simp only [List.map_toArray, List.map_cons, List.map_nil]); first | done | rfl | (simp only [List.length_drop, List.length_take]; rfl)) ?_; (refine (papermillref04_both.calls k _ _ l0 _ _ ([] : List (S49)) 0 t39001 t39002 _ ?side1 ?side2 ?side3 ?side4 A2.out).mono ?_); (case side1 => exact HR0.out); (case side2 => exact HC0.out); (case side3 => exact Kd.C_nil _ _); (case side4 => exact Nat.le_refl _); rintro e w3 ⟨v39003, rfl, ho0, hb⟩; refine ⟨_, rfl, ?_⟩; have n0_ := Aside0.mk (Kd.R_lower ho0 (below_size (by repeat (first | exact HB.out | apply below_alloc | apply pw_below_drewN | apply below_drew1)))); have n1_ := Aside0.mk (below_step (by repeat (first | exact HB.out | apply below_alloc | apply pw_below_drewN | apply below_drew1)) hb); clear HB; have HO39004 := n0_; have HB := n1_; clear n0_ n1_; (try clear hb); (try clear hb2); (try clear hk); (try clear hi); (try clear ho0)))
 go_ret2
 exact ⟨_, by first | rfl | (simp [errW_none, errW_some] <;> rfl) | (simp [*, errW_none, errW_some] <;> rfl), by exact HO39004.out, by repeat (first | exact HB.out | apply below_alloc | apply pw_below_drewN | apply below_drew1)⟩

end Go.Proofs.Ytjkakgkiikjdmaa.G

namespace Go.Proofs.Ytjkakgkiikjdmaa.G
open Go.RowKit Go.Proofs.YtjkakgkiikjdmaaW.PrintWords Go.Proofs.YtjkakgkiikjdmaaW.PrintLast Go.Proofs.YtjkakgkiikjdmaaW.PrintMore
attribute [local go_sem] max2_int min2_int max_two min_two max_three min_three max_four min_four   -- for this text's walks alone
set_option linter.unusedVariables false
set_option linter.unusedSimpArgs false

def papermillref13_length.l0 : Nat → List (S56) → Int → Int → Option (Int)
 | 0, _, _, _ => none
 | k + 1, x0, x3, x4 => if x4 < (x0.length : Int) then (if 0 ≤ x4 then (papermillref13_length.l0 k x0 (wrap64 (x3 + ((rd_T56 x0 x4).f1))) (wrap64 (x4 + 1))) else (none)) else (some x3)
def papermillref13_length.f (k : Nat) (l0 : List (S56)) : Option (Int) := papermillref13_length.l0 k l0 0 0
theorem papermillref13_length.mono_l : ∀ k, (∀ y0 y1 y2, LeO (papermillref13_length.l0 k y0 y1 y2) (papermillref13_length.l0 (k + 1) y0 y1 y2))
 | 0 => fun _ _ _ r h => by simp [papermillref13_length.l0] at h
 | k + 1 => by
  have ih0 := papermillref13_length.mono_l k
  ·intro y0 y1 y2
   unfold papermillref13_length.l0
   repeat' first
   | (with_reducible exact ih0 _ _ _)
   | (with_reducible exact LeO.refl _)
   | (with_reducible exact LeO.none _)
   | (with_reducible refine LeO.ite ?_ ?_)
   | (with_reducible refine LeO.bind ?_ (fun _ => ?_))
   | exact ih0 _ _ _
   | exact LeO.none _
   | refine LeO.ite ?_ ?_
   | refine LeO.bind ?_ (fun _ => ?_)
theorem papermillref13_length.mono : ∀ a0 k, LeO (papermillref13_length.f k a0) (papermillref13_length.f (k + 1) a0) := by
 intro a0 k
 have ih0 := papermillref13_length.mono_l k
 unfold papermillref13_length.f
 repeat' first
   | (with_reducible exact ih0 _ _ _)
   | (with_reducible exact LeO.refl _)
   | (with_reducible exact LeO.none _)
   | (with_reducible refine LeO.ite ?_ ?_)
   | (with_reducible refine LeO.bind ?_ (fun _ => ?_))
   | exact ih0 _ _ _
   | exact LeO.none _
   | refine LeO.ite ?_ ?_
   | refine LeO.bind ?_ (fun _ => ?_)
set_option maxHeartbeats 8000000 in
set_option maxRecDepth 100000 in
theorem papermillref13_length.calls (k : Nat) (A0 : Option Addr) (c0 : Nat) (l0 : List (S56)) (r : Int) (w : World) (hr0 : Kd.C k56 w A0 l0.length l0) (hc0 : l0.length ≤ c0) (h : papermillref13_length.f k l0 = some r) :
  Calls Try.prog 63 #[.slice A0 l0.length c0] w fun e w' => e = .returned (.int .i64 r) ∧ Drawn0 w w' := by
 have HR0 := Aside0.mk hr0
 have HC0 := Aside0.mk hc0
 clear hr0 hc0
 have H : (papermillref13_length.l0 k l0 0 0) = some r := h
 clear h
 have H' := Aside0.mk H
 clear H
 go_enter Try.func63, Try.ntmps63
 go_wp2
 go_loopg [3, 4] k (fun kq v3 v4 w' => ∃ (x3_1 : Int) (x4_1 : Int), v3 = .int .i64 x3_1 ∧ v4 = .int .i64 x4_1 ∧ Aside0 (papermillref13_length.l0 kq l0 x3_1 x4_1 = some r) ∧ Aside0 (kq ≤ k) ∧ Drawn0 w w')
 case atStart => exact ⟨(0), (0), (by first | rfl | (simp; done) | (simp [*]; done)), (by first | rfl | (simp; done) | (simp [*]; done)), H', ⟨Nat.le_refl _⟩, by repeat (first | exact Drawn0.refl _ | apply Drawn0.step)⟩
 case round =>
  clear H'
  obtain ⟨x3_1, x4_1, rfl, rfl, HA, HK1, ⟨m1, rfl⟩⟩ := hrel
  cases gk with
  | zero => exact absurd HA.out (by simp [papermillref13_length.l0])
  | succ k1 =>
   have H := HA.out
   clear HA
   simp only [papermillref13_length.l0] at H
   by_cases c2 : x4_1 < (l0.length : Int)
   ·rw [if_pos c2] at H
    have c2b0 : decide (x4_1 < (l0.length : Int)) = true := decide_eq_true c2
    clear c2
    by_cases c3 : 0 ≤ x4_1
    ·rw [if_pos c3] at H
     have c3b0 : decide (0 ≤ x4_1) = true := decide_eq_true c3
     clear c3
     have H' := Aside0.mk H
     clear H
     have p64001 : 0 ≤ (x4_1 : Int) := of_decide_eq_true (by assumption)
     have q64001 : x4_1 < (l0.length : Int) := of_decide_eq_true (by assumption)
     obtain ⟨ad64001, e64001, hx64001_0, hx64001_1, hx64001_2⟩ := at_T56 HR0.out x4_1 p64001 q64001
     cases e64001
     replace p64001 := eq_true p64001
     replace q64001 := eq_true q64001
     go_wp2
     go_roundg k1
     case measure => have := HK1.out; omega
     case rel => exact ⟨(wrap64 (x3_1 + ((rd_T56 l0 x4_1).f1))), (wrap64 (x4_1 + 1)), (by first | rfl | (simp; done) | (simp [*]; done)), (by first | rfl | (simp; done) | (simp [*]; done)), H', ⟨by have := HK1.out; omega⟩, by repeat (first | exact Drawn0.refl _ | apply Drawn0.step)⟩
    ·rw [if_neg c3] at H
     exact absurd H (by simp)
   ·rw [if_neg c2] at H
    have c2b0 : decide (x4_1 < (l0.length : Int)) = false := decide_eq_false c2
    clear c2
    obtain rfl := Option.some.inj H
    go_wp2
    go_ret
    exact ⟨by first | rfl | (simp; done) | (simp [*]; done), by repeat (first | exact Drawn0.refl _ | apply Drawn0.step)⟩

end Go.Proofs.Ytjkakgkiikjdmaa.G

namespace Go.Proofs.Ytjkakgkiikjdmaa.G
open Go.RowKit Go.Proofs.YtjkakgkiikjdmaaW.PrintWords Go.Proofs.YtjkakgkiikjdmaaW.PrintLast Go.Proofs.YtjkakgkiikjdmaaW.PrintMore
attribute [local go_sem] max2_int min2_int max_two min_two max_three min_three max_four min_four   -- for this text's walks alone
set_option linter.unusedVariables false
set_option linter.unusedSimpArgs false

def papermillref13_good.j0 : Nat → Bool → Int → Int → Bool → Option (Bool)
 | 0, _, _, _, _ => none
 | k + 1, x20, x75002000, x75002001, x75002002 => if x20 = true then (some false) else (if x75002002 = true then (some (decide ((wrap64 ((wrap64 (x75002000 - x75002001)) + 1)) ≥ 0))) else (some (decide ((wrap64 (x75002000 + x75002001)) ≤ 17179869184))))
def papermillref13_good.f (k : Nat) (a0_0 : Int) (a0_1 : Int) (a0_2 : Bool) : Option (Bool) := if a0_1 < 1 then (papermillref13_good.j0 k true a0_0 a0_1 a0_2) else (if a0_1 > 17179869184 then (papermillref13_good.j0 k true a0_0 a0_1 a0_2) else (if a0_0 < 0 then (papermillref13_good.j0 k true a0_0 a0_1 a0_2) else (papermillref13_good.j0 k (decide (a0_0 ≥ 17179869184)) a0_0 a0_1 a0_2)))
theorem papermillref13_good.mono_l : ∀ k, (∀ y0 y1 y2 y3, LeO (papermillref13_good.j0 k y0 y1 y2 y3) (papermillref13_good.j0 (k + 1) y0 y1 y2 y3))
 | 0 => fun _ _ _ _ r h => by simp [papermillref13_good.j0] at h
 | k + 1 => by
  have ih0 := papermillref13_good.mono_l k
  ·intro y0 y1 y2 y3
   unfold papermillref13_good.j0
   repeat' first
   | (with_reducible exact ih0 _ _ _ _)
   | (with_reducible exact LeO.refl _)
   | (with_reducible exact LeO.none _)
   | (with_reducible refine LeO.ite ?_ ?_)
   | (with_reducible refine LeO.bind ?_ (fun _ => ?_))
   | exact ih0 _ _ _ _
   | exact LeO.none _
   | refine LeO.ite ?_ ?_
   | refine LeO.bind ?_ (fun _ => ?_)
theorem papermillref13_good.mono : ∀ a0 a1 a2 k, LeO (papermillref13_good.f k a0 a1 a2) (papermillref13_good.f (k + 1) a0 a1 a2) := by
 intro a0 a1 a2 k
 have ih0 := papermillref13_good.mono_l k
 unfold papermillref13_good.f
 repeat' first
   | (with_reducible exact ih0 _ _ _ _)
   | (with_reducible exact LeO.refl _)
   | (with_reducible exact LeO.none _)
   | (with_reducible refine LeO.ite ?_ ?_)
   | (with_reducible refine LeO.bind ?_ (fun _ => ?_))
   | exact ih0 _ _ _ _
   | exact LeO.none _
   | refine LeO.ite ?_ ?_
   | refine LeO.bind ?_ (fun _ => ?_)
set_option maxHeartbeats 8000000 in
set_option maxRecDepth 100000 in
theorem papermillref13_good.calls (k : Nat) (a0_0 : Int) (a0_1 : Int) (a0_2 : Bool) (r : Bool) (w : World) (h : papermillref13_good.f k a0_0 a0_1 a0_2 = some r) :
  Calls Try.prog 74 #[.agg #[.int .i64 a0_0, .int .i64 a0_1, .bool a0_2]] w fun e w' => e = .returned (.bool r) ∧ Below w.heap.size w w' := by
 have hu56 := Try.underlying56
 have HB := Aside0.mk (Below.refl w.heap.size w)
 have H : (if a0_1 < 1 then (papermillref13_good.j0 k true a0_0 a0_1 a0_2) else (if a0_1 > 17179869184 then (papermillref13_good.j0 k true a0_0 a0_1 a0_2) else (if a0_0 < 0 then (papermillref13_good.j0 k true a0_0 a0_1 a0_2) else (papermillref13_good.j0 k (decide (a0_0 ≥ 17179869184)) a0_0 a0_1 a0_2)))) = some r := h
 clear h
 have HC2 := Aside0.mk H
 clear H
 go_enter Try.func74, Try.ntmps74
 go_upto_region 1 with (first | ((with_reducible refine gate_dst (N := 1) rfl ?_); refine box_event ?hg (N := 1) ?hd (cs := #[.int .i64 a0_0, .int .i64 a0_1, .bool a0_2]) (t := 56) ?hr ?_; (case hd => rfl); (case hg => rfl); (case hr => first | (go_simp; done) | (go_simp; rfl)); intro gb75001 hg w3 hbox hb; have n0_ := Aside0.mk (below_step (by repeat (first | exact HB.out | apply below_alloc | apply pw_below_drewN | apply below_drew1)) hb); have n1_ := Aside0.mk (hbox); have n2_ := Aside0.mk ((by rw [hg]; exact (below_size (by repeat (first | exact HB.out | apply below_alloc | apply pw_below_drewN | apply below_drew1))) : w.heap.size ≤ gb75001)); have n3_ := Aside0.mk ((by rw [hg]; exact (below_size (by repeat (first | exact HB.out | apply below_alloc | apply pw_below_drewN | apply below_drew1))) : w.heap.size ≤ gb75001)); clear HB; have HB := n0_; have BK75001 := n1_; have GW75001 := n2_; have GE75001 := n3_; clear n0_ n1_ n2_ n3_; clear hb hbox hg))
 (try simp only [Act.put, List.setIfInBounds_toArray, List.set_cons_zero, List.set_cons_succ])
 go_cut [20] (fun v20 wc => ∃ (kq : Nat) (x20_1 : Bool), v20 = .bool x20_1 ∧ Aside0 (papermillref13_good.j0 kq x20_1 a0_0 a0_1 a0_2 = some r) ∧ Aside0 (kq ≤ k) ∧ Aside0 (wc.heap[gb75001]? = some (.cells #[.int .i64 a0_0, .int .i64 a0_1, .bool a0_2] 56 (0, 0))) ∧ Aside0 (Below w.heap.size w wc))
 case first =>
  have H := HC2.out
  clear HC2
  by_cases c4 : a0_1 < 1
  ·rw [if_pos c4] at H
   have c4b0 : decide (a0_1 < 1) = true := decide_eq_true c4
   clear c4
   (first | rw [c4b0] | (simp only [i64_w, i32_w]; rw [c4b0]) | skip)
   have H' := Aside0.mk H
   clear H
   have hcz5_0 : w3.cell? ⟨gb75001, 0, none⟩ = some (.int .i64 a0_0) := (blk_cell BK75001.out 0).trans rfl
   have hcz5_1 : w3.cell? ⟨gb75001, 1, none⟩ = some (.int .i64 a0_1) := (blk_cell BK75001.out 1).trans rfl
   have hcz5_2 : w3.cell? ⟨gb75001, 2, none⟩ = some (.bool a0_2) := (blk_cell BK75001.out 2).trans rfl
   have hfz5_0 := blk_frozen BK75001.out 0
   have hfz5_1 := blk_frozen BK75001.out 1
   have hfz5_2 := blk_frozen BK75001.out 2
   go_wp2
   go_meet
   case rel => exact ⟨_, (true), (by first | rfl | (simp; done) | (simp [*]; done)), H', ⟨by first | omega | exact Nat.le_refl _⟩, ⟨BK75001.out⟩, ⟨by repeat (first | exact HB.out | apply below_alloc | apply pw_below_drewN | apply below_drew1 | refine below_set ?_ GE75001.out)⟩⟩
  ·rw [if_neg c4] at H
   have c4b0 : decide (a0_1 < 1) = false := decide_eq_false c4
   clear c4
   (first | rw [c4b0] | (simp only [i64_w, i32_w]; rw [c4b0]) | skip)
   by_cases c6 : a0_1 > 17179869184
   ·rw [if_pos c6] at H
    have c6b0 : decide (17179869184 < a0_1) = true := decide_eq_true c6
    clear c6
    have H' := Aside0.mk H
    clear H
    have hcz7_0 : w3.cell? ⟨gb75001, 0, none⟩ = some (.int .i64 a0_0) := (blk_cell BK75001.out 0).trans rfl
    have hcz7_1 : w3.cell? ⟨gb75001, 1, none⟩ = some (.int .i64 a0_1) := (blk_cell BK75001.out 1).trans rfl
    have hcz7_2 : w3.cell? ⟨gb75001, 2, none⟩ = some (.bool a0_2) := (blk_cell BK75001.out 2).trans rfl
    have hfz7_0 := blk_frozen BK75001.out 0
    have hfz7_1 := blk_frozen BK75001.out 1
    have hfz7_2 := blk_frozen BK75001.out 2
    go_wp2
    go_meet
    case rel => exact ⟨_, (true), (by first | rfl | (simp; done) | (simp [*]; done)), H', ⟨by first | omega | exact Nat.le_refl _⟩, ⟨BK75001.out⟩, ⟨by repeat (first | exact HB.out | apply below_alloc | apply pw_below_drewN | apply below_drew1 | refine below_set ?_ GE75001.out)⟩⟩
   ·rw [if_neg c6] at H
    have c6b0 : decide (17179869184 < a0_1) = false := decide_eq_false c6
    clear c6
    by_cases c8 : a0_0 < 0
    ·rw [if_pos c8] at H
     have c8b0 : decide (a0_0 < 0) = true := decide_eq_true c8
     clear c8
     have H' := Aside0.mk H
     clear H
     have hcz9_0 : w3.cell? ⟨gb75001, 0, none⟩ = some (.int .i64 a0_0) := (blk_cell BK75001.out 0).trans rfl
     have hcz9_1 : w3.cell? ⟨gb75001, 1, none⟩ = some (.int .i64 a0_1) := (blk_cell BK75001.out 1).trans rfl
     have hcz9_2 : w3.cell? ⟨gb75001, 2, none⟩ = some (.bool a0_2) := (blk_cell BK75001.out 2).trans rfl
     have hfz9_0 := blk_frozen BK75001.out 0
     have hfz9_1 := blk_frozen BK75001.out 1
     have hfz9_2 := blk_frozen BK75001.out 2
     go_wp2
     go_meet
     case rel => exact ⟨_, (true), (by first | rfl | (simp; done) | (simp [*]; done)), H', ⟨by first | omega | exact Nat.le_refl _⟩, ⟨BK75001.out⟩, ⟨by repeat (first | exact HB.out | apply below_alloc | apply pw_below_drewN | apply below_drew1 | refine below_set ?_ GE75001.out)⟩⟩
    ·rw [if_neg c8] at H
     have c8b0 : decide (a0_0 < 0) = false := decide_eq_false c8
     clear c8
     have H' := Aside0.mk H
     clear H
     have hcz10_0 : w3.cell? ⟨gb75001, 0, none⟩ = some (.int .i64 a0_0) := (blk_cell BK75001.out 0).trans rfl
     have hcz10_1 : w3.cell? ⟨gb75001, 1, none⟩ = some (.int .i64 a0_1) := (blk_cell BK75001.out 1).trans rfl
     have hcz10_2 : w3.cell? ⟨gb75001, 2, none⟩ = some (.bool a0_2) := (blk_cell BK75001.out 2).trans rfl
     have hfz10_0 := blk_frozen BK75001.out 0
     have hfz10_1 := blk_frozen BK75001.out 1
     have hfz10_2 := blk_frozen BK75001.out 2
     go_wp2
     go_meet
     case rel => exact ⟨_, (decide (a0_0 ≥ 17179869184)), (by first | rfl | (simp; done) | (simp [*]; done)), H', ⟨by first | omega | exact Nat.le_refl _⟩, ⟨BK75001.out⟩, ⟨by repeat (first | exact HB.out | apply below_alloc | apply pw_below_drewN | apply below_drew1 | refine below_set ?_ GE75001.out)⟩⟩
 case rest =>
  clear HC2
  try clear p2
  try clear c4
  try clear c4b0
  try clear c6
  try clear c6b0
  try clear c7
  try clear c8
  try clear c8b0
  try clear hcz10_0
  try clear hcz10_1
  try clear hcz10_2
  try clear hcz5_0
  try clear hcz5_1
  try clear hcz5_2
  try clear hcz7_0
  try clear hcz7_1
  try clear hcz7_2
  try clear hcz9_0
  try clear hcz9_1
  try clear hcz9_2
  try clear hfz10_0
  try clear hfz10_1
  try clear hfz10_2
  try clear hfz5_0
  try clear hfz5_1
  try clear hfz5_2
  try clear hfz7_0
  try clear hfz7_1
  try clear hfz7_2
  try clear hfz9_0
  try clear hfz9_1
  try clear hfz9_2
  obtain ⟨kq, x20_1, rfl, HA, HJ1, BK75001, HB⟩ := hcut
  cases kq with
  | zero => exact absurd HA.out (by simp [papermillref13_good.j0])
  | succ kj1 =>
   have H := HA.out
   clear HA
   simp only [papermillref13_good.j0] at H
   by_cases c11 : x20_1 = true
   ·subst c11
    have H1 : (some false) = some r := by rw [if_pos rfl] at H; exact H
    clear H
    have H := H1
    clear H1
    obtain rfl := Option.some.inj H
    go_wp2
    go_ret
    exact ⟨by first | rfl | (simp [errW_none, errW_some] <;> rfl) | (simp [*, errW_none, errW_some] <;> rfl), by repeat (first | exact HB.out | apply below_alloc | apply pw_below_drewN | apply below_drew1 | refine below_set ?_ GE75001.out)⟩
   ·replace c11 := Bool.eq_false_iff.mpr c11
    subst c11
    have H1 : (if a0_2 = true then (some (decide ((wrap64 ((wrap64 (a0_0 - a0_1)) + 1)) ≥ 0))) else (some (decide ((wrap64 (a0_0 + a0_1)) ≤ 17179869184)))) = some r := by rw [if_neg (show ¬ (false = true) by decide)] at H; first | exact H | simpa using H
    clear H
    have H := H1
    clear H1
    by_cases c12 : a0_2 = true
    ·subst c12
     have H1 : (some (decide ((wrap64 ((wrap64 (a0_0 - a0_1)) + 1)) ≥ 0))) = some r := by rw [if_pos rfl] at H; exact H
     clear H
     have H := H1
     clear H1
     obtain rfl := Option.some.inj H
     have hcz13_0 : wc.cell? ⟨gb75001, 0, none⟩ = some (.int .i64 a0_0) := (blk_cell BK75001.out 0).trans rfl
     have hcz13_1 : wc.cell? ⟨gb75001, 1, none⟩ = some (.int .i64 a0_1) := (blk_cell BK75001.out 1).trans rfl
     have hcz13_2 : wc.cell? ⟨gb75001, 2, none⟩ = some (.bool true) := (blk_cell BK75001.out 2).trans rfl
     have hfz13_0 := blk_frozen BK75001.out 0
     have hfz13_1 := blk_frozen BK75001.out 1
     have hfz13_2 := blk_frozen BK75001.out 2
     go_wp2
     go_ret
     exact ⟨by first | rfl | (simp [errW_none, errW_some] <;> rfl) | (simp [*, errW_none, errW_some] <;> rfl), by repeat (first | exact HB.out | apply below_alloc | apply pw_below_drewN | apply below_drew1 | refine below_set ?_ GE75001.out)⟩
    ·replace c12 := Bool.eq_false_iff.mpr c12
     subst c12
     have H1 : (some (decide ((wrap64 (a0_0 + a0_1)) ≤ 17179869184))) = some r := by rw [if_neg (show ¬ (false = true) by decide)] at H; first | exact H | simpa using H
     clear H
     have H := H1
     clear H1
     obtain rfl := Option.some.inj H
     have hcz14_0 : wc.cell? ⟨gb75001, 0, none⟩ = some (.int .i64 a0_0) := (blk_cell BK75001.out 0).trans rfl
     have hcz14_1 : wc.cell? ⟨gb75001, 1, none⟩ = some (.int .i64 a0_1) := (blk_cell BK75001.out 1).trans rfl
     have hcz14_2 : wc.cell? ⟨gb75001, 2, none⟩ = some (.bool false) := (blk_cell BK75001.out 2).trans rfl
     have hfz14_0 := blk_frozen BK75001.out 0
     have hfz14_1 := blk_frozen BK75001.out 1
     have hfz14_2 := blk_frozen BK75001.out 2
     go_wp2
     go_ret
     exact ⟨by first | rfl | (simp [errW_none, errW_some] <;> rfl) | (simp [*, errW_none, errW_some] <;> rfl), by repeat (first | exact HB.out | apply below_alloc | apply pw_below_drewN | apply below_drew1 | refine below_set ?_ GE75001.out)⟩

end Go.Proofs.Ytjkakgkiikjdmaa.G

namespace Go.Proofs.Ytjkakgkiikjdmaa.G
open Go.RowKit Go.Proofs.YtjkakgkiikjdmaaW.PrintWords Go.Proofs.YtjkakgkiikjdmaaW.PrintLast Go.Proofs.YtjkakgkiikjdmaaW.PrintMore
attribute [local go_sem] max2_int min2_int max_two min_two max_three min_three max_four min_four   -- for this text's walks alone
set_option linter.unusedVariables false
set_option linter.unusedSimpArgs false

def papermillref13_Check.l0 : Nat → List (S56) → Int → Option (Int)
 | 0, _, _ => none
 | k + 1, x0, x3 => if x3 < (x0.length : Int) then (if 0 ≤ x3 then ((papermillref13_good.f k ((rd_T56 x0 x3).f0) ((rd_T56 x0 x3).f1) ((rd_T56 x0 x3).f2)).bind fun t61002 => (if t61002 = true then (papermillref13_Check.l0 k x0 (wrap64 (x3 + 1))) else (some 1))) else (none)) else ((papermillref13_length.f k x0).bind fun t61003 => (if t61003 > 17179869184 then (some 21) else (some 0)))
def papermillref13_Check.f (k : Nat) (l0 : List (S56)) : Option (Int) := if (l0.length : Int) > 256 then (some 8) else (papermillref13_Check.l0 k l0 0)
theorem papermillref13_Check.mono_l : ∀ k, (∀ y0 y1, LeO (papermillref13_Check.l0 k y0 y1) (papermillref13_Check.l0 (k + 1) y0 y1))
 | 0 => fun _ _ r h => by simp [papermillref13_Check.l0] at h
 | k + 1 => by
  have ih0 := papermillref13_Check.mono_l k
  ·intro y0 y1
   unfold papermillref13_Check.l0
   repeat' first
   | (with_reducible exact ih0 _ _)
   | (with_reducible exact papermillref13_good.mono _ _ _ _)
   | (with_reducible exact papermillref13_length.mono _ _)
   | (with_reducible exact LeO.refl _)
   | (with_reducible exact LeO.none _)
   | (with_reducible refine LeO.ite ?_ ?_)
   | (with_reducible refine LeO.bind ?_ (fun _ => ?_))
   | exact ih0 _ _
   | exact papermillref13_good.mono _ _ _ _
   | exact papermillref13_length.mono _ _
   | exact LeO.none _
   | refine LeO.ite ?_ ?_
   | refine LeO.bind ?_ (fun _ => ?_)
theorem papermillref13_Check.mono : ∀ a0 k, LeO (papermillref13_Check.f k a0) (papermillref13_Check.f (k + 1) a0) := by
 intro a0 k
 have ih0 := papermillref13_Check.mono_l k
 unfold papermillref13_Check.f
 repeat' first
   | (with_reducible exact ih0 _ _)
   | (with_reducible exact papermillref13_good.mono _ _ _ _)
   | (with_reducible exact papermillref13_length.mono _ _)
   | (with_reducible exact LeO.refl _)
   | (with_reducible exact LeO.none _)
   | (with_reducible refine LeO.ite ?_ ?_)
   | (with_reducible refine LeO.bind ?_ (fun _ => ?_))
   | exact ih0 _ _
   | exact papermillref13_good.mono _ _ _ _
   | exact papermillref13_length.mono _ _
   | exact LeO.none _
   | refine LeO.ite ?_ ?_
   | refine LeO.bind ?_ (fun _ => ?_)
set_option maxHeartbeats 8000000 in
set_option maxRecDepth 100000 in
theorem papermillref13_Check.calls (k : Nat) (A0 : Option Addr) (c0 : Nat) (l0 : List (S56)) (r : Int) (w : World) (hr0 : Kd.C k56 w A0 l0.length l0) (hc0 : l0.length ≤ c0) (h : papermillref13_Check.f k l0 = some r) :
  Calls Try.prog 60 #[.slice A0 l0.length c0] w fun e w' => e = .returned (.int .i64 r) ∧ Below w.heap.size w w' := by
 have hu56 := Try.underlying56
 have HR0 := Aside0.mk hr0
 have HC0 := Aside0.mk hc0
 clear hr0 hc0
 have HB := Aside0.mk (Below.refl w.heap.size w)
 have H : (if (l0.length : Int) > 256 then (some 8) else (papermillref13_Check.l0 k l0 0)) = some r := h
 clear h
 by_cases c2 : (l0.length : Int) > 256
 ·rw [if_pos c2] at H
  have c2b0 : decide (256 < (l0.length : Int)) = true := decide_eq_true c2
  have c2b1 : decide (256 < l0.length) = true := decide_eq_true (by omega)
  clear c2
  obtain rfl := Option.some.inj H
  go_enter Try.func60, Try.ntmps60
  go_wp2
  go_ret
  exact ⟨by first | rfl | (simp [errW_none, errW_some] <;> rfl) | (simp [*, errW_none, errW_some] <;> rfl), by repeat (first | exact HB.out | apply below_alloc | apply pw_below_drewN | apply below_drew1)⟩
 ·rw [if_neg c2] at H
  have c2b0 : decide (256 < (l0.length : Int)) = false := decide_eq_false c2
  have c2b1 : decide (256 < l0.length) = false := decide_eq_false (by omega)
  clear c2
  have H' := Aside0.mk H
  clear H
  go_enter Try.func60, Try.ntmps60
  go_wp2
  go_loopg [3] k (fun kq v3 w' => ∃ (x3_1 : Int), v3 = .int .i64 x3_1 ∧ Aside0 (papermillref13_Check.l0 kq l0 x3_1 = some r) ∧ Aside0 (kq ≤ k) ∧ Aside0 (Below w.heap.size w w'))
  case atStart => exact ⟨(0), (by first | rfl | (simp; done) | (simp [*]; done)), H', ⟨Nat.le_refl _⟩, ⟨by repeat (first | exact HB.out | apply below_alloc | apply pw_below_drewN | apply below_drew1)⟩⟩
  case round =>
   clear H'
   try clear c2
   try clear c2b0
   try clear c2b1
   try clear p2
   obtain ⟨x3_1, rfl, HA, HK1, HB⟩ := hrel
   cases gk with
   | zero => exact absurd HA.out (by simp [papermillref13_Check.l0])
   | succ k1 =>
    have H := HA.out
    clear HA
    simp only [papermillref13_Check.l0] at H
    by_cases c3 : x3_1 < (l0.length : Int)
    ·rw [if_pos c3] at H
     have c3b0 : decide (x3_1 < (l0.length : Int)) = true := decide_eq_true c3
     clear c3
     by_cases c4 : 0 ≤ x3_1
     ·rw [if_pos c4] at H
      have c4b0 : decide (0 ≤ x3_1) = true := decide_eq_true c4
      clear c4
      replace H := Option.bind_eq_some_iff.mp H
      obtain ⟨t61002, A50, H⟩ := H
      replace H : (if t61002 = true then (papermillref13_Check.l0 k1 l0 (wrap64 (x3_1 + 1))) else (some 1)) = some r := H
      have A5 := Aside0.mk A50
      clear A50
      by_cases c6 : t61002 = true
      ·subst c6
       have H1 : (papermillref13_Check.l0 k1 l0 (wrap64 (x3_1 + 1))) = some r := by rw [if_pos rfl] at H; exact H
       clear H
       have H := H1
       clear H1
       have H' := Aside0.mk H
       clear H
       have p61001 : 0 ≤ (x3_1 : Int) := of_decide_eq_true (by assumption)
       have q61001 : x3_1 < (l0.length : Int) := of_decide_eq_true (by assumption)
       obtain ⟨ad61001, e61001, hx61001_0, hx61001_1, hx61001_2⟩ := at_T56 HR0.out x3_1 p61001 q61001
       cases e61001
       replace hx61001_0 := (HB.out.cell (World.block_lt_of_cell? w _ hx61001_0)).trans hx61001_0
       replace hx61001_1 := (HB.out.cell (World.block_lt_of_cell? w _ hx61001_1)).trans hx61001_1
       replace hx61001_2 := (HB.out.cell (World.block_lt_of_cell? w _ hx61001_2)).trans hx61001_2
       replace p61001 := eq_true p61001
       replace q61001 := eq_true q61001
       go_wp2_with (first | ((with_reducible refine gate_callee (f := 74) rfl ?_); refine goesL_ (some 17) rfl rfl Try.func74 (by kernel_rfl) rfl #[.agg #[.int .i64 ((rd_T56 l0 x3_1).f0), .int .i64 ((rd_T56 l0 x3_1).f1), .bool ((rd_T56 l0 x3_1).f2)]] rfl (by (try simp only [List.map_toArray, List.map_cons, List.map_nil]); first | done | rfl | (simp only [List.length_drop, List.length_take]; rfl)) ?_; (with_reducible refine (papermillref13_good.calls k1 ((rd_T56 l0 x3_1).f0) ((rd_T56 l0 x3_1).f1) ((rd_T56 l0 x3_1).f2) true _ A5.out).mono ?_); rintro e w7 ⟨rfl, hb⟩; refine ⟨_, rfl, ?_⟩; have n0_ := Aside0.mk (below_step (by repeat (first | exact HB.out | apply below_alloc | apply pw_below_drewN | apply below_drew1)) hb); clear HB; have HB := n0_; clear n0_; (try clear hb); (try clear hb2); (try clear hk); (try clear hi)))
       go_roundg k1
       case measure => have := HK1.out; omega
       case rel => exact ⟨(wrap64 (x3_1 + 1)), (by first | rfl | (simp; done) | (simp [*]; done)), H', ⟨by have := HK1.out; omega⟩, ⟨by repeat (first | exact HB.out | apply below_alloc | apply pw_below_drewN | apply below_drew1)⟩⟩
      ·replace c6 := Bool.eq_false_iff.mpr c6
       subst c6
       have H1 : (some 1) = some r := by rw [if_neg (show ¬ (false = true) by decide)] at H; first | exact H | simpa using H
       clear H
       have H := H1
       clear H1
       obtain rfl := Option.some.inj H
       have p61001 : 0 ≤ (x3_1 : Int) := of_decide_eq_true (by assumption)
       have q61001 : x3_1 < (l0.length : Int) := of_decide_eq_true (by assumption)
       obtain ⟨ad61001, e61001, hx61001_0, hx61001_1, hx61001_2⟩ := at_T56 HR0.out x3_1 p61001 q61001
       cases e61001
       replace hx61001_0 := (HB.out.cell (World.block_lt_of_cell? w _ hx61001_0)).trans hx61001_0
       replace hx61001_1 := (HB.out.cell (World.block_lt_of_cell? w _ hx61001_1)).trans hx61001_1
       replace hx61001_2 := (HB.out.cell (World.block_lt_of_cell? w _ hx61001_2)).trans hx61001_2
       replace p61001 := eq_true p61001
       replace q61001 := eq_true q61001
       go_wp2_with (first | ((with_reducible refine gate_callee (f := 74) rfl ?_); refine goesL_ (some 17) rfl rfl Try.func74 (by kernel_rfl) rfl #[.agg #[.int .i64 ((rd_T56 l0 x3_1).f0), .int .i64 ((rd_T56 l0 x3_1).f1), .bool ((rd_T56 l0 x3_1).f2)]] rfl (by (try simp only [List.map_toArray, List.map_cons, List.map_nil]); first | done | rfl | (simp only [List.length_drop, List.length_take]; rfl)) ?_; (with_reducible refine (papermillref13_good.calls k1 ((rd_T56 l0 x3_1).f0) ((rd_T56 l0 x3_1).f1) ((rd_T56 l0 x3_1).f2) false _ A5.out).mono ?_); rintro e w8 ⟨rfl, hb⟩; refine ⟨_, rfl, ?_⟩; have n0_ := Aside0.mk (below_step (by repeat (first | exact HB.out | apply below_alloc | apply pw_below_drewN | apply below_drew1)) hb); clear HB; have HB := n0_; clear n0_; (try clear hb); (try clear hb2); (try clear hk); (try clear hi)))
       go_ret
       exact ⟨by first | rfl | (simp [errW_none, errW_some] <;> rfl) | (simp [*, errW_none, errW_some] <;> rfl), by repeat (first | exact HB.out | apply below_alloc | apply pw_below_drewN | apply below_drew1)⟩
     ·rw [if_neg c4] at H
      exact absurd H (by simp)
    ·rw [if_neg c3] at H
     have c3b0 : decide (x3_1 < (l0.length : Int)) = false := decide_eq_false c3
     clear c3
     replace H := Option.bind_eq_some_iff.mp H
     obtain ⟨t61003, A90, H⟩ := H
     replace H : (if t61003 > 17179869184 then (some 21) else (some 0)) = some r := H
     have A9 := Aside0.mk A90
     clear A90
     by_cases c10 : t61003 > 17179869184
     ·rw [if_pos c10] at H
      have c10b0 : decide (17179869184 < t61003) = true := decide_eq_true c10
      clear c10
      obtain rfl := Option.some.inj H
      go_wp2_with (first | ((with_reducible refine gate_callee (f := 63) rfl ?_); refine goesL_ (some 20) rfl rfl Try.func63 (by kernel_rfl) rfl #[.slice A0 l0.length c0] rfl (by (try simp only [List.map_toArray, List.map_cons, List.map_nil]); first | done | rfl | (simp only [List.length_drop, List.length_take]; rfl)) ?_; (with_reducible refine (papermillref13_length.calls k1 _ _ l0 t61003 _ ?side1 ?side2 A9.out).mono ?_); (case side1 => exact (Kd.C_below HR0.out HB.out)); (case side2 => exact HC0.out); rintro e w' ⟨rfl, ⟨nd, rfl⟩⟩; refine ⟨_, rfl, ?_⟩))
      go_ret
      exact ⟨by first | rfl | (simp [errW_none, errW_some] <;> rfl) | (simp [*, errW_none, errW_some] <;> rfl), by repeat (first | exact HB.out | apply below_alloc | apply pw_below_drewN | apply below_drew1)⟩
     ·rw [if_neg c10] at H
      have c10b0 : decide (17179869184 < t61003) = false := decide_eq_false c10
      clear c10
      obtain rfl := Option.some.inj H
      go_wp2_with (first | ((with_reducible refine gate_callee (f := 63) rfl ?_); refine goesL_ (some 20) rfl rfl Try.func63 (by kernel_rfl) rfl #[.slice A0 l0.length c0] rfl (by (try simp only [List.map_toArray, List.map_cons, List.map_nil]); first | done | rfl | (simp only [List.length_drop, List.length_take]; rfl)) ?_; (with_reducible refine (papermillref13_length.calls k1 _ _ l0 t61003 _ ?side1 ?side2 A9.out).mono ?_); (case side1 => exact (Kd.C_below HR0.out HB.out)); (case side2 => exact HC0.out); rintro e w' ⟨rfl, ⟨nd, rfl⟩⟩; refine ⟨_, rfl, ?_⟩))
      go_ret
      exact ⟨by first | rfl | (simp [errW_none, errW_some] <;> rfl) | (simp [*, errW_none, errW_some] <;> rfl), by repeat (first | exact HB.out | apply below_alloc | apply pw_below_drewN | apply below_drew1)⟩

end Go.Proofs.Ytjkakgkiikjdmaa.G

namespace Go.Proofs.Ytjkakgkiikjdmaa.G
open Go.RowKit Go.Proofs.YtjkakgkiikjdmaaW.PrintWords Go.Proofs.YtjkakgkiikjdmaaW.PrintLast Go.Proofs.YtjkakgkiikjdmaaW.PrintMore
attribute [local go_sem] max2_int min2_int max_two min_two max_three min_three max_four min_four   -- for this text's walks alone
set_option linter.unusedVariables false
set_option linter.unusedSimpArgs false

def papermillref13_image.f (a0_0 : Int) (a0_1 : Int) (a0_2 : Bool) (a1 : Int) : Option (Int) := if a0_2 = true then (some (wrap64 (a0_0 - a1))) else (some (wrap64 (a0_0 + a1)))
set_option maxHeartbeats 8000000 in
set_option maxRecDepth 100000 in
theorem papermillref13_image.calls (a0_0 : Int) (a0_1 : Int) (a0_2 : Bool) (a1 : Int) (r : Int) (w : World) (h : papermillref13_image.f a0_0 a0_1 a0_2 a1 = some r) :
  Calls Try.prog 83 #[.agg #[.int .i64 a0_0, .int .i64 a0_1, .bool a0_2], .int .i64 a1] w fun e w' => e = .returned (.int .i64 r) ∧ Below w.heap.size w w' := by
 have hu56 := Try.underlying56
 have HB := Aside0.mk (Below.refl w.heap.size w)
 have H : (if a0_2 = true then (some (wrap64 (a0_0 - a1))) else (some (wrap64 (a0_0 + a1)))) = some r := h
 clear h
 by_cases c3 : a0_2 = true
 ·subst c3
  have H1 : (some (wrap64 (a0_0 - a1))) = some r := by rw [if_pos rfl] at H; exact H
  clear H
  have H := H1
  clear H1
  obtain rfl := Option.some.inj H
  go_enter Try.func83, Try.ntmps83
  go_wp2_with (first | ((with_reducible refine gate_dst (N := 2) rfl ?_); refine box_event ?hg (N := 2) ?hd (cs := #[.int .i64 a0_0, .int .i64 a0_1, .bool true]) (t := 56) ?hr ?_; (case hd => rfl); (case hg => rfl); (case hr => first | (go_simp; done) | (go_simp; rfl)); intro gb84001 hg w4 hbox hb; have n0_ := Aside0.mk (below_step (by repeat (first | exact HB.out | apply below_alloc | apply pw_below_drewN | apply below_drew1)) hb); have n1_ := Aside0.mk (hbox); have n2_ := Aside0.mk ((by rw [hg]; exact (below_size (by repeat (first | exact HB.out | apply below_alloc | apply pw_below_drewN | apply below_drew1))) : w.heap.size ≤ gb84001)); have n3_ := Aside0.mk ((by rw [hg]; exact (below_size (by repeat (first | exact HB.out | apply below_alloc | apply pw_below_drewN | apply below_drew1))) : w.heap.size ≤ gb84001)); clear HB; have HB := n0_; have BK84001 := n1_; have GW84001 := n2_; have GE84001 := n3_; clear n0_ n1_ n2_ n3_; clear hb hbox hg; have hcz5_0 : w4.cell? ⟨gb84001, 0, none⟩ = some (.int .i64 a0_0) := (blk_cell BK84001.out 0).trans rfl; have hcz5_1 : w4.cell? ⟨gb84001, 1, none⟩ = some (.int .i64 a0_1) := (blk_cell BK84001.out 1).trans rfl; have hcz5_2 : w4.cell? ⟨gb84001, 2, none⟩ = some (.bool true) := (blk_cell BK84001.out 2).trans rfl; have hfz5_0 := blk_frozen BK84001.out 0; have hfz5_1 := blk_frozen BK84001.out 1; have hfz5_2 := blk_frozen BK84001.out 2))
  go_ret
  exact ⟨by first | rfl | (simp [errW_none, errW_some] <;> rfl) | (simp [*, errW_none, errW_some] <;> rfl), by repeat (first | exact HB.out | apply below_alloc | apply pw_below_drewN | apply below_drew1 | refine below_set ?_ GE84001.out)⟩
 ·replace c3 := Bool.eq_false_iff.mpr c3
  subst c3
  have H1 : (some (wrap64 (a0_0 + a1))) = some r := by rw [if_neg (show ¬ (false = true) by decide)] at H; first | exact H | simpa using H
  clear H
  have H := H1
  clear H1
  obtain rfl := Option.some.inj H
  go_enter Try.func83, Try.ntmps83
  go_wp2_with (first | ((with_reducible refine gate_dst (N := 2) rfl ?_); refine box_event ?hg (N := 2) ?hd (cs := #[.int .i64 a0_0, .int .i64 a0_1, .bool false]) (t := 56) ?hr ?_; (case hd => rfl); (case hg => rfl); (case hr => first | (go_simp; done) | (go_simp; rfl)); intro gb84001 hg w6 hbox hb; have n0_ := Aside0.mk (below_step (by repeat (first | exact HB.out | apply below_alloc | apply pw_below_drewN | apply below_drew1)) hb); have n1_ := Aside0.mk (hbox); have n2_ := Aside0.mk ((by rw [hg]; exact (below_size (by repeat (first | exact HB.out | apply below_alloc | apply pw_below_drewN | apply below_drew1))) : w.heap.size ≤ gb84001)); have n3_ := Aside0.mk ((by rw [hg]; exact (below_size (by repeat (first | exact HB.out | apply below_alloc | apply pw_below_drewN | apply below_drew1))) : w.heap.size ≤ gb84001)); clear HB; have HB := n0_; have BK84001 := n1_; have GW84001 := n2_; have GE84001 := n3_; clear n0_ n1_ n2_ n3_; clear hb hbox hg; have hcz7_0 : w6.cell? ⟨gb84001, 0, none⟩ = some (.int .i64 a0_0) := (blk_cell BK84001.out 0).trans rfl; have hcz7_1 : w6.cell? ⟨gb84001, 1, none⟩ = some (.int .i64 a0_1) := (blk_cell BK84001.out 1).trans rfl; have hcz7_2 : w6.cell? ⟨gb84001, 2, none⟩ = some (.bool false) := (blk_cell BK84001.out 2).trans rfl; have hfz7_0 := blk_frozen BK84001.out 0; have hfz7_1 := blk_frozen BK84001.out 1; have hfz7_2 := blk_frozen BK84001.out 2))
  go_ret
  exact ⟨by first | rfl | (simp [errW_none, errW_some] <;> rfl) | (simp [*, errW_none, errW_some] <;> rfl), by repeat (first | exact HB.out | apply below_alloc | apply pw_below_drewN | apply below_drew1 | refine below_set ?_ GE84001.out)⟩

end Go.Proofs.Ytjkakgkiikjdmaa.G
