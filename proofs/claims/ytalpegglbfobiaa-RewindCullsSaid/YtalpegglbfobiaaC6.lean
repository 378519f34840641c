import Derived.Test.YtalpegglbfobiaaQ1
import Derived.Test.YtalpegglbfobiaaQ4
import Derived.Test.YtalpegglbfobiaaQ3
import Derived.Deep.LoopGhost
import Derived.Sort.QuietIn
import Derived.Deep.Fields
import Derived.RangeFuncRecord
import Derived.StillTailTactics
namespace Go.Proofs.Ytalpegglbfobiaa.G
open Go.RowKit Go.Proofs.YtalpegglbfobiaaW.PrintWords Go.Proofs.YtalpegglbfobiaaW.PrintLast Go.Proofs.YtalpegglbfobiaaW.PrintMore
attribute [local go_sem] max2_int min2_int max_two min_two max_three min_three max_four min_four   -- for this text's walks alone
set_option linter.unusedVariables false
set_option linter.unusedSimpArgs false

def papermillref04_Check.l0 : Nat → List (S55) → Int → Option (Int)
 | 0, _, _ => none
 | k + 1, x0, x3 => if x3 < (x0.length : Int) then (if 0 ≤ x3 then (if ((rd_T55 x0 x3).f0) < 0 then (some 1) else (if ((rd_T55 x0 x3).f0) > ((rd_T55 x0 x3).f1) then (some 1) else (if ((rd_T55 x0 x3).f1) > 17179869184 then (some 1) else (papermillref04_Check.l0 k x0 (wrap64 (x3 + 1)))))) else (none)) else (some 0)
def papermillref04_Check.f (k : Nat) (l0 : List (S55)) : Option (Int) := if (l0.length : Int) > 256 then (some 8) else (papermillref04_Check.l0 k l0 0)
set_option maxHeartbeats 8000000 in
set_option maxRecDepth 100000 in
theorem papermillref04_Check.calls (k : Nat) (A0 : Option Addr) (c0 : Nat) (l0 : List (S55)) (r : Int) (w : World) (hr0 : Kd.C k55 w A0 l0.length l0) (hc0 : l0.length ≤ c0) (h : papermillref04_Check.f k l0 = some r) :
  Calls Try.prog 78 #[.slice A0 l0.length c0] w fun e w' => e = .returned (.int .i64 r) ∧ Drawn0 w w' := by
 have HR0 := Aside0.mk hr0
 have HC0 := Aside0.mk hc0
 clear hr0 hc0
 have H : (if (l0.length : Int) > 256 then (some 8) else (papermillref04_Check.l0 k l0 0)) = some r := h
 clear h
 by_cases c2 : (l0.length : Int) > 256
 ·rw [if_pos c2] at H
  have c2b0 : decide (256 < (l0.length : Int)) = true := decide_eq_true c2
  have c2b1 : decide (256 < l0.length) = true := decide_eq_true (by omega)
  clear c2
  obtain rfl := Option.some.inj H
  go_enter Try.func78, Try.ntmps78
  go_wp2
  repeat (go_quiet (fail); try go_wp2)
  go_ret
  exact ⟨by first | rfl | (simp; done) | (simp [*]; done), by repeat (first | exact Drawn0.refl _ | apply Drawn0.step)⟩
 ·rw [if_neg c2] at H
  have c2b0 : decide (256 < (l0.length : Int)) = false := decide_eq_false c2
  have c2b1 : decide (256 < l0.length) = false := decide_eq_false (by omega)
  clear c2
  have H' := Aside0.mk H
  clear H
  go_enter Try.func78, Try.ntmps78
  go_wp2
  repeat (go_quiet (fail); try go_wp2)
  go_loopg [3] k (fun kq v3 w' => ∃ (x3_1 : Int), v3 = .int .i64 x3_1 ∧ Aside0 (papermillref04_Check.l0 kq l0 x3_1 = some r) ∧ Aside0 (kq ≤ k) ∧ Drawn0 w w')
  case atStart => exact ⟨(0), (by first | rfl | (simp; done) | (simp [*]; done)), H', ⟨Nat.le_refl _⟩, by repeat (first | exact Drawn0.refl _ | apply Drawn0.step)⟩
  case round =>
   clear H'
   try clear c2
   try clear c2b0
   try clear c2b1
   try clear p2
   obtain ⟨x3_1, rfl, HA, HK1, ⟨m1, rfl⟩⟩ := hrel
   cases gk with
   | zero => exact absurd HA.out (by simp [papermillref04_Check.l0])
   | succ k1 =>
    have H := HA.out
    clear HA
    simp only [papermillref04_Check.l0] at H
    by_cases c3 : x3_1 < (l0.length : Int)
    ·rw [if_pos c3] at H
     have c3b0 : decide (x3_1 < (l0.length : Int)) = true := decide_eq_true c3
     clear c3
     by_cases c4 : 0 ≤ x3_1
     ·rw [if_pos c4] at H
      have c4b0 : decide (0 ≤ x3_1) = true := decide_eq_true c4
      clear c4
      by_cases c5 : ((rd_T55 l0 x3_1).f0) < 0
      ·rw [if_pos c5] at H
       have c5b0 : decide (((rd_T55 l0 x3_1).f0) < 0) = true := decide_eq_true c5
       clear c5
       obtain rfl := Option.some.inj H
       have p79001 : 0 ≤ (x3_1 : Int) := of_decide_eq_true (by assumption)
       have q79001 : x3_1 < (l0.length : Int) := of_decide_eq_true (by assumption)
       obtain ⟨ad79001, e79001, hx79001_0, hx79001_1⟩ := at_T55 HR0.out x3_1 p79001 q79001
       cases e79001
       replace p79001 := eq_true p79001
       replace q79001 := eq_true q79001
       go_wp2
       repeat (go_quiet (fail); try go_wp2)
       go_ret
       exact ⟨by first | rfl | (simp; done) | (simp [*]; done), by repeat (first | exact Drawn0.refl _ | apply Drawn0.step)⟩
      ·rw [if_neg c5] at H
       have c5b0 : decide (((rd_T55 l0 x3_1).f0) < 0) = false := decide_eq_false c5
       clear c5
       by_cases c6 : ((rd_T55 l0 x3_1).f0) > ((rd_T55 l0 x3_1).f1)
       ·rw [if_pos c6] at H
        have c6b0 : decide (((rd_T55 l0 x3_1).f1) < ((rd_T55 l0 x3_1).f0)) = true := decide_eq_true c6
        clear c6
        obtain rfl := Option.some.inj H
        have p79001 : 0 ≤ (x3_1 : Int) := of_decide_eq_true (by assumption)
        have q79001 : x3_1 < (l0.length : Int) := of_decide_eq_true (by assumption)
        obtain ⟨ad79001, e79001, hx79001_0, hx79001_1⟩ := at_T55 HR0.out x3_1 p79001 q79001
        cases e79001
        replace p79001 := eq_true p79001
        replace q79001 := eq_true q79001
        have p79002 : 0 ≤ (x3_1 : Int) := of_decide_eq_true (by assumption)
        have q79002 : x3_1 < (l0.length : Int) := of_decide_eq_true (by assumption)
        obtain ⟨ad79002, e79002, hx79002_0, hx79002_1⟩ := at_T55 HR0.out x3_1 p79002 q79002
        obtain rfl : ad79001 = ad79002 := (by injection e79002)
        replace p79002 := eq_true p79002
        replace q79002 := eq_true q79002
        have p79003 : 0 ≤ (x3_1 : Int) := of_decide_eq_true (by assumption)
        have q79003 : x3_1 < (l0.length : Int) := of_decide_eq_true (by assumption)
        obtain ⟨ad79003, e79003, hx79003_0, hx79003_1⟩ := at_T55 HR0.out x3_1 p79003 q79003
        obtain rfl : ad79001 = ad79003 := (by injection e79003)
        replace p79003 := eq_true p79003
        replace q79003 := eq_true q79003
        go_wp2
        repeat (go_quiet (fail); try go_wp2)
        go_ret
        exact ⟨by first | rfl | (simp; done) | (simp [*]; done), by repeat (first | exact Drawn0.refl _ | apply Drawn0.step)⟩
       ·rw [if_neg c6] at H
        have c6b0 : decide (((rd_T55 l0 x3_1).f1) < ((rd_T55 l0 x3_1).f0)) = false := decide_eq_false c6
        clear c6
        by_cases c7 : ((rd_T55 l0 x3_1).f1) > 17179869184
        ·rw [if_pos c7] at H
         have c7b0 : decide (17179869184 < ((rd_T55 l0 x3_1).f1)) = true := decide_eq_true c7
         clear c7
         obtain rfl := Option.some.inj H
         have p79001 : 0 ≤ (x3_1 : Int) := of_decide_eq_true (by assumption)
         have q79001 : x3_1 < (l0.length : Int) := of_decide_eq_true (by assumption)
         obtain ⟨ad79001, e79001, hx79001_0, hx79001_1⟩ := at_T55 HR0.out x3_1 p79001 q79001
         cases e79001
         replace p79001 := eq_true p79001
         replace q79001 := eq_true q79001
         have p79002 : 0 ≤ (x3_1 : Int) := of_decide_eq_true (by assumption)
         have q79002 : x3_1 < (l0.length : Int) := of_decide_eq_true (by assumption)
         obtain ⟨ad79002, e79002, hx79002_0, hx79002_1⟩ := at_T55 HR0.out x3_1 p79002 q79002
         obtain rfl : ad79001 = ad79002 := (by injection e79002)
         replace p79002 := eq_true p79002
         replace q79002 := eq_true q79002
         have p79003 : 0 ≤ (x3_1 : Int) := of_decide_eq_true (by assumption)
         have q79003 : x3_1 < (l0.length : Int) := of_decide_eq_true (by assumption)
         obtain ⟨ad79003, e79003, hx79003_0, hx79003_1⟩ := at_T55 HR0.out x3_1 p79003 q79003
         obtain rfl : ad79001 = ad79003 := (by injection e79003)
         replace p79003 := eq_true p79003
         replace q79003 := eq_true q79003
         have p79004 : 0 ≤ (x3_1 : Int) := of_decide_eq_true (by assumption)
         have q79004 : x3_1 < (l0.length : Int) := of_decide_eq_true (by assumption)
         obtain ⟨ad79004, e79004, hx79004_0, hx79004_1⟩ := at_T55 HR0.out x3_1 p79004 q79004
         obtain rfl : ad79001 = ad79004 := (by injection e79004)
         replace p79004 := eq_true p79004
         replace q79004 := eq_true q79004
         go_wp2
         repeat (go_quiet (fail); try go_wp2)
         go_ret
         exact ⟨by first | rfl | (simp; done) | (simp [*]; done), by repeat (first | exact Drawn0.refl _ | apply Drawn0.step)⟩
        ·rw [if_neg c7] at H
         have c7b0 : decide (17179869184 < ((rd_T55 l0 x3_1).f1)) = false := decide_eq_false c7
         clear c7
         have H' := Aside0.mk H
         clear H
         have p79001 : 0 ≤ (x3_1 : Int) := of_decide_eq_true (by assumption)
         have q79001 : x3_1 < (l0.length : Int) := of_decide_eq_true (by assumption)
         obtain ⟨ad79001, e79001, hx79001_0, hx79001_1⟩ := at_T55 HR0.out x3_1 p79001 q79001
         cases e79001
         replace p79001 := eq_true p79001
         replace q79001 := eq_true q79001
         have p79002 : 0 ≤ (x3_1 : Int) := of_decide_eq_true (by assumption)
         have q79002 : x3_1 < (l0.length : Int) := of_decide_eq_true (by assumption)
         obtain ⟨ad79002, e79002, hx79002_0, hx79002_1⟩ := at_T55 HR0.out x3_1 p79002 q79002
         obtain rfl : ad79001 = ad79002 := (by injection e79002)
         replace p79002 := eq_true p79002
         replace q79002 := eq_true q79002
         have p79003 : 0 ≤ (x3_1 : Int) := of_decide_eq_true (by assumption)
         have q79003 : x3_1 < (l0.length : Int) := of_decide_eq_true (by assumption)
         obtain ⟨ad79003, e79003, hx79003_0, hx79003_1⟩ := at_T55 HR0.out x3_1 p79003 q79003
         obtain rfl : ad79001 = ad79003 := (by injection e79003)
         replace p79003 := eq_true p79003
         replace q79003 := eq_true q79003
         have p79004 : 0 ≤ (x3_1 : Int) := of_decide_eq_true (by assumption)
         have q79004 : x3_1 < (l0.length : Int) := of_decide_eq_true (by assumption)
         obtain ⟨ad79004, e79004, hx79004_0, hx79004_1⟩ := at_T55 HR0.out x3_1 p79004 q79004
         obtain rfl : ad79001 = ad79004 := (by injection e79004)
         replace p79004 := eq_true p79004
         replace q79004 := eq_true q79004
         go_wp2
         repeat (go_quiet (fail); try go_wp2)
         go_roundg k1
         case measure => have := HK1.out; omega
         case rel => exact ⟨(wrap64 (x3_1 + 1)), (by first | rfl | (simp; done) | (simp [*]; done)), H', ⟨by have := HK1.out; omega⟩, by repeat (first | exact Drawn0.refl _ | apply Drawn0.step)⟩
     ·rw [if_neg c4] at H
      exact absurd H (by simp)
    ·rw [if_neg c3] at H
     have c3b0 : decide (x3_1 < (l0.length : Int)) = false := decide_eq_false c3
     clear c3
     obtain rfl := Option.some.inj H
     go_wp2
     repeat (go_quiet (fail); try go_wp2)
     go_ret
     exact ⟨by first | rfl | (simp; done) | (simp [*]; done), by repeat (first | exact Drawn0.refl _ | apply Drawn0.step)⟩

end Go.Proofs.Ytalpegglbfobiaa.G

namespace Go.Proofs.Ytalpegglbfobiaa.G
open Go.RowKit Go.Proofs.YtalpegglbfobiaaW.PrintWords Go.Proofs.YtalpegglbfobiaaW.PrintLast Go.Proofs.YtalpegglbfobiaaW.PrintMore
attribute [local go_sem] max2_int min2_int max_two min_two max_three min_three max_four min_four   -- for this text's walks alone
set_option linter.unusedVariables false
set_option linter.unusedSimpArgs false

def papermillref04_with.l0 : Nat → List Int → Int → Int → Option (List Int)
 | 0, _, _, _ => none
 | k + 1, x0, x1, x5 => if x5 < (x0.length : Int) then (if 0 ≤ x5 then (if (rd x0 x5) < x1 then (papermillref04_with.l0 k x0 x1 (wrap64 (x5 + 1))) else (if (rd x0 x5) = x1 then (some x0) else ((some (([] : List Int) : List Int)).bind fun y100003 => (if x5 ≤ (x0.length : Int) then ((some (x0.take (x5 : Int).toNat : List Int)).bind fun y100006 => (if y100003.length + y100006.length < 17592186044416 then ((some (y100003 ++ y100006 : List Int)).bind fun y100010 => (if y100010.length < 17592186044416 then ((some (y100010 ++ [x1] : List Int)).bind fun y100013 => ((some (x0.drop (x5 : Int).toNat : List Int)).bind fun y100016 => (if y100013.length + y100016.length < 17592186044416 then (some (y100013 ++ y100016)) else (none)))) else (none))) else (none))) else (none))))) else (none)) else ((some (([] : List Int) : List Int)).bind fun y100023 => (if 0 ≤ x5 then (if x5 ≤ (x0.length : Int) then ((some (x0.take (x5 : Int).toNat : List Int)).bind fun y100026 => (if y100023.length + y100026.length < 17592186044416 then ((some (y100023 ++ y100026 : List Int)).bind fun y100030 => (if y100030.length < 17592186044416 then ((some (y100030 ++ [x1] : List Int)).bind fun y100033 => ((some (x0.drop (x5 : Int).toNat : List Int)).bind fun y100036 => (if y100033.length + y100036.length < 17592186044416 then (some (y100033 ++ y100036)) else (none)))) else (none))) else (none))) else (none)) else (none)))
def papermillref04_with.f (k : Nat) (l0 : List Int) (a1 : Int) : Option (List Int) := papermillref04_with.l0 k l0 a1 0
set_option maxHeartbeats 8000000 in
set_option maxRecDepth 100000 in
theorem papermillref04_with.calls (k : Nat) (P0_ : Nat → Prop) (u9000_ : Value) (l0 : List Int) (a1 : Int) (r : List Int) (w0 w : World) (hB : Below w0.heap.size w0 w) (ho0 : Kd.R (Kd.int .i64) 3 w w0.heap.size P0_ u9000_ l0) (h : papermillref04_with.f k l0 a1 = some r) :
  Calls Try.prog 99 #[u9000_, .int .i64 a1] w fun e w' => ∃ v0_ : Value, e = .returned (v0_) ∧ Kd.R (Kd.int .i64) 3 w' w0.heap.size (fun k_ => (P0_ k_ ∨ w.heap.size ≤ k_)) v0_ r ∧ Below w0.heap.size w0 w' ∧ Kept w w' (fun k_ => P0_ k_) := by
 have HO0 := Aside0.mk (show Kd.R (Kd.int .i64) 3 w w0.heap.size (fun k_ => (P0_ k_ ∨ w.heap.size ≤ k_)) u9000_ l0 from Kd.R_mono ho0 (fun k_ hk => (.inl hk)))
 have HK := Aside0.mk (Kept.refl w (fun k_ => P0_ k_))
 have HW0 := Aside0.mk hB.size
 have HB := Aside0.mk hB
 clear hB
 have H : (papermillref04_with.l0 k l0 a1 0) = some r := h
 clear h
 have H' := Aside0.mk H
 clear H
 go_enter Try.func99, Try.ntmps99
 go_wp2
 go_loopg [5] k (fun kq v5 w' => ∃ (x5_1 : Int), v5 = .int .i64 x5_1 ∧ Aside0 (papermillref04_with.l0 kq l0 a1 x5_1 = some r) ∧ Aside0 (kq ≤ k) ∧ Aside0 (Kd.R (Kd.int .i64) 3 w' w0.heap.size (fun k_ => (P0_ k_ ∨ w.heap.size ≤ k_)) u9000_ l0) ∧ Aside0 (Kept w w' (fun k_ => P0_ k_)) ∧ Aside0 (Below w0.heap.size w0 w'))
 case atStart => exact ⟨(0), (by first | rfl | (simp; done) | (simp [*]; done)), H', ⟨Nat.le_refl _⟩, ⟨HO0.out⟩, ⟨by repeat (first | (with_reducible first | exact HK.out | apply Kept.alloc | apply Kept.drewN | apply Kept.drew) | exact HK.out)⟩, ⟨by repeat (first | exact HB.out | apply below_alloc | apply pw_below_drewN | apply below_drew1)⟩⟩
 case round =>
  clear H'
  try clear p2
  obtain ⟨x5_1, rfl, HA, HK1, HO_0, HK, HB⟩ := hrel
  cases gk with
  | zero => exact absurd HA.out (by simp [papermillref04_with.l0])
  | succ k1 =>
   have H := HA.out
   clear HA
   simp only [papermillref04_with.l0] at H
   by_cases c3 : x5_1 < (l0.length : Int)
   ·rw [if_pos c3] at H
    have c3b0 : decide (x5_1 < (l0.length : Int)) = true := decide_eq_true c3
    clear c3
    by_cases c4 : 0 ≤ x5_1
    ·rw [if_pos c4] at H
     have c4b0 : decide (0 ≤ x5_1) = true := decide_eq_true c4
     clear c4
     by_cases c5 : (rd l0 x5_1) < a1
     ·rw [if_pos c5] at H
      have c5b0 : decide ((rd l0 x5_1) < a1) = true := decide_eq_true c5
      clear c5
      have H' := Aside0.mk H
      clear H
      obtain ⟨Ao6, co6, eo6⟩ := Kd.R_slice HO_0.out
      subst eo6
      have p100001 : 0 ≤ (x5_1 : Int) := of_decide_eq_true (by assumption)
      have q100001 : x5_1 < (l0.length : Int) := of_decide_eq_true (by assumption)
      obtain ⟨ad100001, e100001, hx100001_0⟩ := Kd.at_int (Kd.R_reads' HO_0.out).2.2 x5_1 p100001 q100001
      cases e100001
      replace p100001 := eq_true p100001
      replace q100001 := eq_true q100001
      go_wp2
      go_roundg k1
      case measure => have := HK1.out; omega
      case rel => exact ⟨(wrap64 (x5_1 + 1)), (by first | rfl | (simp; done) | (simp [*]; done)), H', ⟨by have := HK1.out; omega⟩, ⟨HO_0.out⟩, ⟨by repeat (first | (with_reducible first | exact HK.out | apply Kept.alloc | apply Kept.drewN | apply Kept.drew) | exact HK.out)⟩, ⟨by repeat (first | exact HB.out | apply below_alloc | apply pw_below_drewN | apply below_drew1)⟩⟩
     ·rw [if_neg c5] at H
      have c5b0 : decide ((rd l0 x5_1) < a1) = false := decide_eq_false c5
      clear c5
      by_cases c7 : (rd l0 x5_1) = a1
      ·rw [if_pos c7] at H
       have c7b0 : ((rd l0 x5_1) == a1) = true := beq_iff_eq.mpr c7
       have c7b1 : ((rd l0 x5_1) != a1) = false := bne_eq_false_iff_eq.mpr c7
       clear c7
       obtain rfl := Option.some.inj H
       obtain ⟨Ao8, co8, eo8⟩ := Kd.R_slice HO_0.out
       subst eo8
       have p100001 : 0 ≤ (x5_1 : Int) := of_decide_eq_true (by assumption)
       have q100001 : x5_1 < (l0.length : Int) := of_decide_eq_true (by assumption)
       obtain ⟨ad100001, e100001, hx100001_0⟩ := Kd.at_int (Kd.R_reads' HO_0.out).2.2 x5_1 p100001 q100001
       cases e100001
       replace p100001 := eq_true p100001
       replace q100001 := eq_true q100001
       have p100002 : 0 ≤ (x5_1 : Int) := of_decide_eq_true (by assumption)
       have q100002 : x5_1 < (l0.length : Int) := of_decide_eq_true (by assumption)
       obtain ⟨ad100002, e100002, hx100002_0⟩ := Kd.at_int (Kd.R_reads' HO_0.out).2.2 x5_1 p100002 q100002
       obtain rfl : ad100001 = ad100002 := (by injection e100002)
       replace p100002 := eq_true p100002
       replace q100002 := eq_true q100002
       go_wp2
       go_ret
       exact ⟨_, by first | rfl | (simp [errW_none, errW_some] <;> rfl) | (simp [*, errW_none, errW_some] <;> rfl), by exact HO_0.out, by repeat (first | exact HB.out | apply below_alloc | apply pw_below_drewN | apply below_drew1), by repeat (first | (with_reducible first | exact HK.out | apply Kept.alloc | apply Kept.drewN | apply Kept.drew) | exact HK.out)⟩
      ·rw [if_neg c7] at H
       have c7b0 : ((rd l0 x5_1) == a1) = false := beq_eq_false_iff_ne.mpr c7
       have c7b1 : ((rd l0 x5_1) != a1) = true := bne_iff_ne.mpr c7
       obtain ⟨y100003, hy100003⟩ : ∃ y_ : List Int, y_ = (([] : List Int)) := ⟨_, rfl⟩
       replace H : (if x5_1 ≤ (l0.length : Int) then ((some (l0.take (x5_1 : Int).toNat : List Int)).bind fun y100006 => (if y100003.length + y100006.length < 17592186044416 then ((some (y100003 ++ y100006 : List Int)).bind fun y100010 => (if y100010.length < 17592186044416 then ((some (y100010 ++ [a1] : List Int)).bind fun y100013 => ((some (l0.drop (x5_1 : Int).toNat : List Int)).bind fun y100016 => (if y100013.length + y100016.length < 17592186044416 then (some (y100013 ++ y100016)) else (none)))) else (none))) else (none))) else (none)) = some r := by first | (rw [hy100003]; with_reducible exact H) | (have H2_ := (Option.bind_some _ _).symm.trans H; rw [hy100003]; with_reducible exact H2_) | (have H2_ := (Option.bind_some _ _).symm.trans H; with_reducible exact H2_) | with_reducible exact H | (rw [hy100003]; exact H) | exact H
       have Ny100003 := Aside0.mk hy100003
       clear hy100003
       have c9b0 := eq_true (of_decide_eq_true (by assumption) : 0 ≤ x5_1)
       by_cases c10 : x5_1 ≤ (l0.length : Int)
       ·rw [if_pos c10] at H
        have c10b0 := eq_true c10
        have c10b1 : decide (x5_1 ≤ (l0.length : Int)) = true := decide_eq_true c10
        clear c10
        obtain ⟨y100006, hy100006⟩ : ∃ y_ : List Int, y_ = (l0.take (x5_1 : Int).toNat) := ⟨_, rfl⟩
        replace H : (if y100003.length + y100006.length < 17592186044416 then ((some (y100003 ++ y100006 : List Int)).bind fun y100010 => (if y100010.length < 17592186044416 then ((some (y100010 ++ [a1] : List Int)).bind fun y100013 => ((some (l0.drop (x5_1 : Int).toNat : List Int)).bind fun y100016 => (if y100013.length + y100016.length < 17592186044416 then (some (y100013 ++ y100016)) else (none)))) else (none))) else (none)) = some r := by first | (rw [hy100006]; with_reducible exact H) | (have H2_ := (Option.bind_some _ _).symm.trans H; rw [hy100006]; with_reducible exact H2_) | (have H2_ := (Option.bind_some _ _).symm.trans H; with_reducible exact H2_) | with_reducible exact H | (rw [hy100006]; exact H) | exact H
        have Ny100006 := Aside0.mk hy100006
        clear hy100006
        by_cases c11 : y100003.length + y100006.length < 17592186044416
        ·rw [if_pos c11] at H
         have LMc11 := Aside0.mk c11
         clear c11
         obtain ⟨y100010, hy100010⟩ : ∃ y_ : List Int, y_ = (y100003 ++ y100006) := ⟨_, rfl⟩
         replace H : (if y100010.length < 17592186044416 then ((some (y100010 ++ [a1] : List Int)).bind fun y100013 => ((some (l0.drop (x5_1 : Int).toNat : List Int)).bind fun y100016 => (if y100013.length + y100016.length < 17592186044416 then (some (y100013 ++ y100016)) else (none)))) else (none)) = some r := by first | (rw [hy100010]; with_reducible exact H) | (have H2_ := (Option.bind_some _ _).symm.trans H; rw [hy100010]; with_reducible exact H2_) | (have H2_ := (Option.bind_some _ _).symm.trans H; with_reducible exact H2_) | with_reducible exact H | (rw [hy100010]; exact H) | exact H
         have Ny100010 := Aside0.mk hy100010
         clear hy100010
         by_cases c12 : y100010.length < 17592186044416
         ·rw [if_pos c12] at H
          have LMc12 := Aside0.mk c12
          clear c12
          obtain ⟨y100013, hy100013⟩ : ∃ y_ : List Int, y_ = (y100010 ++ [a1]) := ⟨_, rfl⟩
          replace H : ((some (l0.drop (x5_1 : Int).toNat : List Int)).bind fun y100016 => (if y100013.length + y100016.length < 17592186044416 then (some (y100013 ++ y100016)) else (none))) = some r := by first | (rw [hy100013]; with_reducible exact H) | (have H2_ := (Option.bind_some _ _).symm.trans H; rw [hy100013]; with_reducible exact H2_) | (have H2_ := (Option.bind_some _ _).symm.trans H; with_reducible exact H2_) | with_reducible exact H | (rw [hy100013]; exact H) | exact H
          have Ny100013 := Aside0.mk hy100013
          clear hy100013
          have c13b0 := eq_true (of_decide_eq_true (by assumption) : 0 ≤ x5_1)
          have c14b0 := eq_true (of_decide_eq_true (by assumption) : x5_1 ≤ (l0.length : Int))
          obtain ⟨y100016, hy100016⟩ : ∃ y_ : List Int, y_ = (l0.drop (x5_1 : Int).toNat) := ⟨_, rfl⟩
          replace H : (if y100013.length + y100016.length < 17592186044416 then (some (y100013 ++ y100016)) else (none)) = some r := by first | (rw [hy100016]; with_reducible exact H) | (have H2_ := (Option.bind_some _ _).symm.trans H; rw [hy100016]; with_reducible exact H2_) | (have H2_ := (Option.bind_some _ _).symm.trans H; with_reducible exact H2_) | with_reducible exact H | (rw [hy100016]; exact H) | exact H
          have Ny100016 := Aside0.mk hy100016
          clear hy100016
          by_cases c15 : y100013.length + y100016.length < 17592186044416
          ·rw [if_pos c15] at H
           have LMc15 := Aside0.mk c15
           clear c15
           obtain ⟨y100020, hy100020⟩ : ∃ y_ : List Int, y_ = (y100013 ++ y100016) := ⟨_, rfl⟩
           replace H : (some y100020) = some r := by first | (rw [hy100020]; with_reducible exact H) | (have H2_ := (Option.bind_some _ _).symm.trans H; rw [hy100020]; with_reducible exact H2_) | (have H2_ := (Option.bind_some _ _).symm.trans H; with_reducible exact H2_) | with_reducible exact H | (rw [hy100020]; exact H) | exact H
           have Ny100020 := Aside0.mk hy100020
           clear hy100020
           obtain rfl := Option.some.inj H
           obtain ⟨Ao16, co16, eo16⟩ := Kd.R_slice HO_0.out
           subst eo16
           have p100001 : 0 ≤ (x5_1 : Int) := of_decide_eq_true (by assumption)
           have q100001 : x5_1 < (l0.length : Int) := of_decide_eq_true (by assumption)
           obtain ⟨ad100001, e100001, hx100001_0⟩ := Kd.at_int (Kd.R_reads' HO_0.out).2.2 x5_1 p100001 q100001
           cases e100001
           replace p100001 := eq_true p100001
           replace q100001 := eq_true q100001
           have p100002 : 0 ≤ (x5_1 : Int) := of_decide_eq_true (by assumption)
           have q100002 : x5_1 < (l0.length : Int) := of_decide_eq_true (by assumption)
           obtain ⟨ad100002, e100002, hx100002_0⟩ := Kd.at_int (Kd.R_reads' HO_0.out).2.2 x5_1 p100002 q100002
           obtain rfl : ad100001 = ad100002 := (by injection e100002)
           replace p100002 := eq_true p100002
           replace q100002 := eq_true q100002
           go_wp2_with (first | ((with_reducible refine gate_dst (N := 34) rfl ?_); refine Kd.R_lit (Kd.int .i64) _ 3 ?hg (N := 34) ?hd (xs := ([] : List Int)) (inner := []) (ok := fun _ => True) (okp := fun _ => True) ?hr ?hp (fun _ hk => hk) trivial (Below.refl _ _) (Nat.le_refl _) (by simp) ?_; (case hd => rfl); (case hg => rfl); (case hr => first | (go_simp; done) | (go_simp; rfl)); (case hp => exact (Reps.none _ _)); intro v100004 w17 ho18 hb hg_ hnew_; clear hg_ hnew_; (first | rw [← Ny100003.out] at ho18 | (simp only [Int.reduceToNat] at ho18; rw [← Ny100003.out] at ho18)); have HO100005 := Aside0.mk (Kd.R_lower (Kd.R_new' (Kd.R_newM (M := fun k_ => (P0_ k_ ∨ w.heap.size ≤ k_)) ho18 (by first | exact HK.out.1 | exact (show Kept w _ (fun k_ => P0_ k_) from by repeat (first | (with_reducible first | exact HK.out | apply Kept.alloc | apply Kept.drewN | apply Kept.drew) | exact HK.out)).1) (fun k_ h_ => .inr h_)) (Kd.R_lt (HO_0.out))) (below_size (by repeat (first | exact HB.out | apply below_alloc | apply pw_below_drewN | apply below_drew1)))); replace HO_0 := Aside0.mk (Kd.R_elder' (HO_0.out) (Kd.R_base ho18) hb); replace HK := Aside0.mk (Kept.below (S := (fun k_ => P0_ k_)) (by repeat (first | (with_reducible first | exact HK.out | apply Kept.alloc | apply Kept.drewN | apply Kept.drew) | exact HK.out)) hb); replace HB := Aside0.mk (below_step (by repeat (first | exact HB.out | apply below_alloc | apply pw_below_drewN | apply below_drew1)) hb); clear hb ho18; have q19 : (x5_1 : Int) ≤ ((l0.length : Int) : Int) := of_decide_eq_true (by assumption); obtain ⟨i019, hi019, _, hsz19, _⟩ := info_parts info3; have hroom19 : l0.length ≤ co16 := (Kd.R_reads' HO_0.out).2.1; have hC19 : Kd.C (Kd.int .i64) _ (some ad100001) l0.length l0 := (Kd.R_reads' HO_0.out).2.2; have hcut19 := cut_to (P := Try.prog) 32 3 .i64 Try.underlying32 hi019 (some ad100001) l0.length co16 x5_1 (of_decide_eq_true (by assumption)) q19 hroom19; have hr19 := Kd.C_take (m := (x5_1 : Int).toNat) hC19 (by omega); have hy19 : y100006.length = (x5_1 : Int).toNat := (by rw [Ny100006.out, List.length_take]; omega); rw [← Ny100006.out] at hr19; rw [← hy19] at hcut19; have HR100009 := Aside0.mk hr19; have HC100009 := Aside0.mk (show y100006.length ≤ co16 from by omega); clear hr19 hC19 hroom19 hi019 hsz19; have KY19 := Aside0.mk hy19; clear hy19; have KL19 := Aside0.mk (show (x5_1 : Int).toNat ≤ l0.length from by omega); replace q19 := eq_true q19) | ((with_reducible refine gate_builtin (b := .append) (xs := #[.tmp 34, .tmp 37]) rfl ?_); at_builtin; refine Kd.R_append_rows (Kd.int .i64) (w0 := w0) w0.heap.size rfl (.tmp 34) (.tmp 37) 32 3 (.int .i64 0) 8 rfl Try.underlying32 info3 rfl (by decide) (by omega) v100004 y100003 y100006 _ _ _ (fun k_ => (P0_ k_ ∨ w.heap.size ≤ k_) ∧ some k_ ≠ (.slice (some ad100001) l0.length co16 : Value).ownBlock) (fun _ => False) rfl rfl ?aO ?aR (fun _ _ h => h) (fun _ h => h.elim) ?aF ?aB ?aS ?aL ?_; (case aR => repeat (first | exact (by repeat (first | (with_reducible exact HR100009.out) | (with_reducible refine Kd.C_alloc ?_ _) | (with_reducible refine Kd.C_drewN ?_ _) | (with_reducible refine Kd.C_drew ?_) | exact HR100009.out)) | (with_reducible refine Kd.C_alloc ?_ _) | (with_reducible refine Kd.C_drewN ?_ _) | (with_reducible refine Kd.C_drew ?_))); (case aB => exact (by repeat (first | exact HB.out | apply below_alloc | apply pw_below_drewN | apply below_drew1))); (case aF => exact (fun k_ hk => ⟨(.inr (Nat.le_trans (by first | exact HK.out.1 | exact (show Kept w _ (fun k_ => P0_ k_) from by repeat (first | (with_reducible first | exact HK.out | apply Kept.alloc | apply Kept.drewN | apply Kept.drew) | exact HK.out)).1) hk)), Kd.fresh' (Kd.R_lt (HO_0.out)) k_ hk⟩)); (case aO => exact (by exact Kd.R_mono HO100005.out (fun _ hk => ⟨hk.1.1, hk.2⟩))); (case aS => exact (below_size (by repeat (first | exact HB.out | apply below_alloc | apply pw_below_drewN | apply below_drew1)))); (case aL => have := LMc11.out; omega); intro v100011 w20 ho hb hg hat; rw [← Ny100010.out] at ho; replace HB := Aside0.mk (hb); replace HK := Aside0.mk (Kept.of_grown (S := (fun k_ => P0_ k_)) hg (by repeat (first | (with_reducible first | exact HK.out | apply Kept.alloc | apply Kept.drewN | apply Kept.drew) | exact HK.out)) (fun k_ e_ => (HO100005.out.1 k_ e_).1.1)); replace HR100009 := Aside0.mk ((show Kd.C (Kd.int .i64) w20 (some ad100001) y100006.length y100006 from by rw [Ny100006.out]; exact Kd.C_take (m := (x5_1 : Int).toNat) ((Kd.R_reads' (Kd.R_after (ok := (fun k_ => (P0_ k_ ∨ w.heap.size ≤ k_))) (HO_0.out) hg hat)).2.2) KL19.out)); replace HO_0 := Aside0.mk (Kd.R_after (ok := (fun k_ => (P0_ k_ ∨ w.heap.size ≤ k_))) (HO_0.out) hg hat); have HO100012 := Aside0.mk (ho); clear HO100005; clear ho hb hg hat) | ((with_reducible refine gate_builtin (b := .append) (xs := #[.tmp 39, .tmp 41]) rfl ?_); at_builtin; refine Kd.R_append (Kd.int .i64) (w0 := w0) w0.heap.size rfl (.tmp 39) (.tmp 41) 32 3 (.int .i64 0) 8 rfl Try.underlying32 info3 rfl (by decide) (by omega) v100011 y100010 a1 [.int .i64 a1] (fun k_ => (P0_ k_ ∨ w.heap.size ≤ k_) ∧ some k_ ≠ (.slice (some ad100001) l0.length co16 : Value).ownBlock) (fun _ => False) rfl rfl ?aP (fun _ hk => hk.elim) ?aF ?aO ?aB ?aS ?aL ?_; (case aP => exact rfl); (case aB => exact (by repeat (first | exact HB.out | apply below_alloc | apply pw_below_drewN | apply below_drew1))); (case aF => exact (fun k_ hk => ⟨(.inr (Nat.le_trans (by first | exact HK.out.1 | exact (show Kept w _ (fun k_ => P0_ k_) from by repeat (first | (with_reducible first | exact HK.out | apply Kept.alloc | apply Kept.drewN | apply Kept.drew) | exact HK.out)).1) hk)), Kd.fresh' (Kd.R_lt (HO_0.out)) k_ hk⟩)); (case aO => exact (HO100012.out)); (case aS => exact (below_size (by repeat (first | exact HB.out | apply below_alloc | apply pw_below_drewN | apply below_drew1)))); (case aL => have := LMc12.out; omega); intro v100014 w21 ho hb hg hat; rw [← Ny100013.out] at ho; replace HB := Aside0.mk (hb); replace HK := Aside0.mk (Kept.of_grown (S := (fun k_ => P0_ k_)) hg (by repeat (first | (with_reducible first | exact HK.out | apply Kept.alloc | apply Kept.drewN | apply Kept.drew) | exact HK.out)) (fun k_ e_ => (HO100012.out.1 k_ e_).1)); replace HR100009 := Aside0.mk ((show Kd.C (Kd.int .i64) w21 (some ad100001) y100006.length y100006 from by rw [Ny100006.out]; exact Kd.C_take (m := (x5_1 : Int).toNat) ((Kd.R_reads' (Kd.R_after (ok := (fun k_ => (P0_ k_ ∨ w.heap.size ≤ k_))) (HO_0.out) hg hat)).2.2) KL19.out)); replace HO_0 := Aside0.mk (Kd.R_after (ok := (fun k_ => (P0_ k_ ∨ w.heap.size ≤ k_))) (HO_0.out) hg hat); have HO100015 := Aside0.mk (ho); clear HO100012; clear ho hb hg hat; have q22 : (x5_1 : Int) ≤ ((l0.length : Int) : Int) := of_decide_eq_true (by assumption); obtain ⟨i022, hi022, _, hsz22, _⟩ := info_parts info3; have hroom22 : l0.length ≤ co16 := (Kd.R_reads' HO_0.out).2.1; have hC22 : Kd.C (Kd.int .i64) _ (some ad100001) l0.length l0 := (Kd.R_reads' HO_0.out).2.2; have q022 : (0 : Int) ≤ (x5_1 : Int) := of_decide_eq_true (by assumption); have hcut22 := cut_from (P := Try.prog) 32 3 .i64 Try.underlying32 hi022 1 hsz22 (some ad100001) l0.length co16 x5_1 q022 q22; have hr22 := Kd.C_drop (m := (x5_1 : Int).toNat) (c := co16) hC22 (by omega) hroom22; obtain ⟨A22, hA22⟩ : ∃ A1, A1 = (if co16 = (x5_1 : Int).toNat then (some ad100001) else ((some ad100001) : Option Addr).map (·.add ((x5_1 : Int).toNat * 1))) := ⟨_, rfl⟩; obtain ⟨c22, hc22⟩ : ∃ c1, c1 = co16 - (x5_1 : Int).toNat := ⟨_, rfl⟩; have hy22 : y100016.length = l0.length - (x5_1 : Int).toNat := (by rw [Ny100016.out, List.length_drop] <;> omega); rw [show (l0).drop (x5_1 : Int).toNat = y100016 from Ny100016.out.symm] at hr22; replace hr22 : Kd.C (Kd.int .i64) _ A22 y100016.length y100016 := (by rw [hA22]; exact hr22); rw [← hy22, ← hA22, ← hc22] at hcut22; have HR100019 := Aside0.mk hr22; have HC100019 := Aside0.mk (show y100016.length ≤ c22 from by rw [hy22, hc22]; exact Nat.sub_le_sub_right hroom22 _); clear hr22 hC22 hroom22 hi022 hsz22 hc22; have KY22 := Aside0.mk hy22; have KA22 := Aside0.mk hA22; clear hy22 hA22; have KL22 := Aside0.mk (show (x5_1 : Int).toNat ≤ l0.length from by omega); replace q22 := eq_true q22) | ((with_reducible refine gate_builtin (b := .append) (xs := #[.tmp 43, .tmp 46]) rfl ?_); at_builtin; refine Kd.R_append_rows (Kd.int .i64) (w0 := w0) w0.heap.size rfl (.tmp 43) (.tmp 46) 32 3 (.int .i64 0) 8 rfl Try.underlying32 info3 rfl (by decide) (by omega) v100014 y100013 y100016 _ _ _ (fun k_ => (P0_ k_ ∨ w.heap.size ≤ k_) ∧ some k_ ≠ (.slice (some ad100001) l0.length co16 : Value).ownBlock) (fun _ => False) rfl rfl ?aO ?aR (fun _ _ h => h) (fun _ h => h.elim) ?aF ?aB ?aS ?aL ?_; (case aR => repeat (first | exact (by repeat (first | (with_reducible exact HR100019.out) | (with_reducible refine Kd.C_alloc ?_ _) | (with_reducible refine Kd.C_drewN ?_ _) | (with_reducible refine Kd.C_drew ?_) | exact HR100019.out)) | (with_reducible refine Kd.C_alloc ?_ _) | (with_reducible refine Kd.C_drewN ?_ _) | (with_reducible refine Kd.C_drew ?_))); (case aB => exact (by repeat (first | exact HB.out | apply below_alloc | apply pw_below_drewN | apply below_drew1))); (case aF => exact (fun k_ hk => ⟨(.inr (Nat.le_trans (by first | exact HK.out.1 | exact (show Kept w _ (fun k_ => P0_ k_) from by repeat (first | (with_reducible first | exact HK.out | apply Kept.alloc | apply Kept.drewN | apply Kept.drew) | exact HK.out)).1) hk)), Kd.fresh' (Kd.R_lt (HO_0.out)) k_ hk⟩)); (case aO => exact (HO100015.out)); (case aS => exact (below_size (by repeat (first | exact HB.out | apply below_alloc | apply pw_below_drewN | apply below_drew1)))); (case aL => have := LMc15.out; omega); intro v100021 w23 ho hb hg hat; rw [← Ny100020.out] at ho; replace HB := Aside0.mk (hb); replace HK := Aside0.mk (Kept.of_grown (S := (fun k_ => P0_ k_)) hg (by repeat (first | (with_reducible first | exact HK.out | apply Kept.alloc | apply Kept.drewN | apply Kept.drew) | exact HK.out)) (fun k_ e_ => (HO100015.out.1 k_ e_).1)); replace HR100009 := Aside0.mk ((show Kd.C (Kd.int .i64) w23 (some ad100001) y100006.length y100006 from by rw [Ny100006.out]; exact Kd.C_take (m := (x5_1 : Int).toNat) ((Kd.R_reads' (Kd.R_after (ok := (fun k_ => (P0_ k_ ∨ w.heap.size ≤ k_))) (HO_0.out) hg hat)).2.2) KL19.out)); replace HR100019 := Aside0.mk ((show Kd.C (Kd.int .i64) w23 A22 y100016.length y100016 from by rw [Ny100016.out, KA22.out]; exact Kd.C_drop (m := (x5_1 : Int).toNat) (c := co16) ((Kd.R_reads' (Kd.R_after (ok := (fun k_ => (P0_ k_ ∨ w.heap.size ≤ k_))) (HO_0.out) hg hat)).2.2) KL22.out ((Kd.R_reads' (Kd.R_after (ok := (fun k_ => (P0_ k_ ∨ w.heap.size ≤ k_))) (HO_0.out) hg hat)).2.1))); replace HO_0 := Aside0.mk (Kd.R_after (ok := (fun k_ => (P0_ k_ ∨ w.heap.size ≤ k_))) (HO_0.out) hg hat); have HO100022 := Aside0.mk (ho); clear HO100015; clear ho hb hg hat))
           go_ret
           exact ⟨_, by first | rfl | (simp [errW_none, errW_some] <;> rfl) | (simp [*, errW_none, errW_some] <;> rfl), by exact Kd.R_mono HO100022.out (fun _ hk => hk.1), by repeat (first | exact HB.out | apply below_alloc | apply pw_below_drewN | apply below_drew1), by repeat (first | (with_reducible first | exact HK.out | apply Kept.alloc | apply Kept.drewN | apply Kept.drew) | exact HK.out)⟩
          ·rw [if_neg c15] at H
           exact absurd H (by simp)
         ·rw [if_neg c12] at H
          exact absurd H (by simp)
        ·rw [if_neg c11] at H
         exact absurd H (by simp)
       ·rw [if_neg c10] at H
        exact absurd H (by simp)
    ·rw [if_neg c4] at H
     exact absurd H (by simp)
   ·rw [if_neg c3] at H
    have c3b0 : decide (x5_1 < (l0.length : Int)) = false := decide_eq_false c3
    clear c3
    obtain ⟨y100023, hy100023⟩ : ∃ y_ : List Int, y_ = (([] : List Int)) := ⟨_, rfl⟩
    replace H : (if 0 ≤ x5_1 then (if x5_1 ≤ (l0.length : Int) then ((some (l0.take (x5_1 : Int).toNat : List Int)).bind fun y100026 => (if y100023.length + y100026.length < 17592186044416 then ((some (y100023 ++ y100026 : List Int)).bind fun y100030 => (if y100030.length < 17592186044416 then ((some (y100030 ++ [a1] : List Int)).bind fun y100033 => ((some (l0.drop (x5_1 : Int).toNat : List Int)).bind fun y100036 => (if y100033.length + y100036.length < 17592186044416 then (some (y100033 ++ y100036)) else (none)))) else (none))) else (none))) else (none)) else (none)) = some r := by first | (rw [hy100023]; with_reducible exact H) | (have H2_ := (Option.bind_some _ _).symm.trans H; rw [hy100023]; with_reducible exact H2_) | (have H2_ := (Option.bind_some _ _).symm.trans H; with_reducible exact H2_) | with_reducible exact H | (rw [hy100023]; exact H) | exact H
    have Ny100023 := Aside0.mk hy100023
    clear hy100023
    by_cases c24 : 0 ≤ x5_1
    ·rw [if_pos c24] at H
     have c24b0 := eq_true c24
     have c24b1 : decide (0 ≤ x5_1) = true := decide_eq_true c24
     clear c24
     by_cases c25 : x5_1 ≤ (l0.length : Int)
     ·rw [if_pos c25] at H
      have c25b0 := eq_true c25
      have c25b1 : decide (x5_1 ≤ (l0.length : Int)) = true := decide_eq_true c25
      clear c25
      obtain ⟨y100026, hy100026⟩ : ∃ y_ : List Int, y_ = (l0.take (x5_1 : Int).toNat) := ⟨_, rfl⟩
      replace H : (if y100023.length + y100026.length < 17592186044416 then ((some (y100023 ++ y100026 : List Int)).bind fun y100030 => (if y100030.length < 17592186044416 then ((some (y100030 ++ [a1] : List Int)).bind fun y100033 => ((some (l0.drop (x5_1 : Int).toNat : List Int)).bind fun y100036 => (if y100033.length + y100036.length < 17592186044416 then (some (y100033 ++ y100036)) else (none)))) else (none))) else (none)) = some r := by first | (rw [hy100026]; with_reducible exact H) | (have H2_ := (Option.bind_some _ _).symm.trans H; rw [hy100026]; with_reducible exact H2_) | (have H2_ := (Option.bind_some _ _).symm.trans H; with_reducible exact H2_) | with_reducible exact H | (rw [hy100026]; exact H) | exact H
      have Ny100026 := Aside0.mk hy100026
      clear hy100026
      by_cases c26 : y100023.length + y100026.length < 17592186044416
      ·rw [if_pos c26] at H
       have LMc26 := Aside0.mk c26
       clear c26
       obtain ⟨y100030, hy100030⟩ : ∃ y_ : List Int, y_ = (y100023 ++ y100026) := ⟨_, rfl⟩
       replace H : (if y100030.length < 17592186044416 then ((some (y100030 ++ [a1] : List Int)).bind fun y100033 => ((some (l0.drop (x5_1 : Int).toNat : List Int)).bind fun y100036 => (if y100033.length + y100036.length < 17592186044416 then (some (y100033 ++ y100036)) else (none)))) else (none)) = some r := by first | (rw [hy100030]; with_reducible exact H) | (have H2_ := (Option.bind_some _ _).symm.trans H; rw [hy100030]; with_reducible exact H2_) | (have H2_ := (Option.bind_some _ _).symm.trans H; with_reducible exact H2_) | with_reducible exact H | (rw [hy100030]; exact H) | exact H
       have Ny100030 := Aside0.mk hy100030
       clear hy100030
       by_cases c27 : y100030.length < 17592186044416
       ·rw [if_pos c27] at H
        have LMc27 := Aside0.mk c27
        clear c27
        obtain ⟨y100033, hy100033⟩ : ∃ y_ : List Int, y_ = (y100030 ++ [a1]) := ⟨_, rfl⟩
        replace H : ((some (l0.drop (x5_1 : Int).toNat : List Int)).bind fun y100036 => (if y100033.length + y100036.length < 17592186044416 then (some (y100033 ++ y100036)) else (none))) = some r := by first | (rw [hy100033]; with_reducible exact H) | (have H2_ := (Option.bind_some _ _).symm.trans H; rw [hy100033]; with_reducible exact H2_) | (have H2_ := (Option.bind_some _ _).symm.trans H; with_reducible exact H2_) | with_reducible exact H | (rw [hy100033]; exact H) | exact H
        have Ny100033 := Aside0.mk hy100033
        clear hy100033
        have c28b0 := eq_true (of_decide_eq_true (by assumption) : 0 ≤ x5_1)
        have c29b0 := eq_true (of_decide_eq_true (by assumption) : x5_1 ≤ (l0.length : Int))
        obtain ⟨y100036, hy100036⟩ : ∃ y_ : List Int, y_ = (l0.drop (x5_1 : Int).toNat) := ⟨_, rfl⟩
        replace H : (if y100033.length + y100036.length < 17592186044416 then (some (y100033 ++ y100036)) else (none)) = some r := by first | (rw [hy100036]; with_reducible exact H) | (have H2_ := (Option.bind_some _ _).symm.trans H; rw [hy100036]; with_reducible exact H2_) | (have H2_ := (Option.bind_some _ _).symm.trans H; with_reducible exact H2_) | with_reducible exact H | (rw [hy100036]; exact H) | exact H
        have Ny100036 := Aside0.mk hy100036
        clear hy100036
        by_cases c30 : y100033.length + y100036.length < 17592186044416
        ·rw [if_pos c30] at H
         have LMc30 := Aside0.mk c30
         clear c30
         obtain ⟨y100040, hy100040⟩ : ∃ y_ : List Int, y_ = (y100033 ++ y100036) := ⟨_, rfl⟩
         replace H : (some y100040) = some r := by first | (rw [hy100040]; with_reducible exact H) | (have H2_ := (Option.bind_some _ _).symm.trans H; rw [hy100040]; with_reducible exact H2_) | (have H2_ := (Option.bind_some _ _).symm.trans H; with_reducible exact H2_) | with_reducible exact H | (rw [hy100040]; exact H) | exact H
         have Ny100040 := Aside0.mk hy100040
         clear hy100040
         obtain rfl := Option.some.inj H
         obtain ⟨Ao31, co31, eo31⟩ := Kd.R_slice HO_0.out
         subst eo31
         go_wp2_with (first | ((with_reducible refine gate_dst (N := 34) rfl ?_); refine Kd.R_lit (Kd.int .i64) _ 3 ?hg (N := 34) ?hd (xs := ([] : List Int)) (inner := []) (ok := fun _ => True) (okp := fun _ => True) ?hr ?hp (fun _ hk => hk) trivial (Below.refl _ _) (Nat.le_refl _) (by simp) ?_; (case hd => rfl); (case hg => rfl); (case hr => first | (go_simp; done) | (go_simp; rfl)); (case hp => exact (Reps.none _ _)); intro v100024 w32 ho33 hb hg_ hnew_; clear hg_ hnew_; (first | rw [← Ny100023.out] at ho33 | (simp only [Int.reduceToNat] at ho33; rw [← Ny100023.out] at ho33)); have HO100025 := Aside0.mk (Kd.R_lower (Kd.R_new' (Kd.R_newM (M := fun k_ => (P0_ k_ ∨ w.heap.size ≤ k_)) ho33 (by first | exact HK.out.1 | exact (show Kept w _ (fun k_ => P0_ k_) from by repeat (first | (with_reducible first | exact HK.out | apply Kept.alloc | apply Kept.drewN | apply Kept.drew) | exact HK.out)).1) (fun k_ h_ => .inr h_)) (Kd.R_lt (HO_0.out))) (below_size (by repeat (first | exact HB.out | apply below_alloc | apply pw_below_drewN | apply below_drew1)))); replace HO_0 := Aside0.mk (Kd.R_elder' (HO_0.out) (Kd.R_base ho33) hb); replace HK := Aside0.mk (Kept.below (S := (fun k_ => P0_ k_)) (by repeat (first | (with_reducible first | exact HK.out | apply Kept.alloc | apply Kept.drewN | apply Kept.drew) | exact HK.out)) hb); replace HB := Aside0.mk (below_step (by repeat (first | exact HB.out | apply below_alloc | apply pw_below_drewN | apply below_drew1)) hb); clear hb ho33; have q34 : (x5_1 : Int) ≤ ((l0.length : Int) : Int) := of_decide_eq_true (by assumption); obtain ⟨i034, hi034, _, hsz34, _⟩ := info_parts info3; have hroom34 : l0.length ≤ co31 := (Kd.R_reads' HO_0.out).2.1; have hC34 : Kd.C (Kd.int .i64) _ Ao31 l0.length l0 := (Kd.R_reads' HO_0.out).2.2; have hcut34 := cut_to (P := Try.prog) 32 3 .i64 Try.underlying32 hi034 Ao31 l0.length co31 x5_1 (of_decide_eq_true (by assumption)) q34 hroom34; have hr34 := Kd.C_take (m := (x5_1 : Int).toNat) hC34 (by omega); have hy34 : y100026.length = (x5_1 : Int).toNat := (by rw [Ny100026.out, List.length_take]; omega); rw [← Ny100026.out] at hr34; rw [← hy34] at hcut34; have HR100029 := Aside0.mk hr34; have HC100029 := Aside0.mk (show y100026.length ≤ co31 from by omega); clear hr34 hC34 hroom34 hi034 hsz34; have KY34 := Aside0.mk hy34; clear hy34; have KL34 := Aside0.mk (show (x5_1 : Int).toNat ≤ l0.length from by omega); replace q34 := eq_true q34) | ((with_reducible refine gate_builtin (b := .append) (xs := #[.tmp 34, .tmp 37]) rfl ?_); at_builtin; refine Kd.R_append_rows (Kd.int .i64) (w0 := w0) w0.heap.size rfl (.tmp 34) (.tmp 37) 32 3 (.int .i64 0) 8 rfl Try.underlying32 info3 rfl (by decide) (by omega) v100024 y100023 y100026 _ _ _ (fun k_ => (P0_ k_ ∨ w.heap.size ≤ k_) ∧ some k_ ≠ (.slice Ao31 l0.length co31 : Value).ownBlock) (fun _ => False) rfl rfl ?aO ?aR (fun _ _ h => h) (fun _ h => h.elim) ?aF ?aB ?aS ?aL ?_; (case aR => repeat (first | exact (by repeat (first | (with_reducible exact HR100029.out) | (with_reducible refine Kd.C_alloc ?_ _) | (with_reducible refine Kd.C_drewN ?_ _) | (with_reducible refine Kd.C_drew ?_) | exact HR100029.out)) | (with_reducible refine Kd.C_alloc ?_ _) | (with_reducible refine Kd.C_drewN ?_ _) | (with_reducible refine Kd.C_drew ?_))); (case aB => exact (by repeat (first | exact HB.out | apply below_alloc | apply pw_below_drewN | apply below_drew1))); (case aF => exact (fun k_ hk => ⟨(.inr (Nat.le_trans (by first | exact HK.out.1 | exact (show Kept w _ (fun k_ => P0_ k_) from by repeat (first | (with_reducible first | exact HK.out | apply Kept.alloc | apply Kept.drewN | apply Kept.drew) | exact HK.out)).1) hk)), Kd.fresh' (Kd.R_lt (HO_0.out)) k_ hk⟩)); (case aO => exact (by exact Kd.R_mono HO100025.out (fun _ hk => ⟨hk.1.1, hk.2⟩))); (case aS => exact (below_size (by repeat (first | exact HB.out | apply below_alloc | apply pw_below_drewN | apply below_drew1)))); (case aL => have := LMc26.out; omega); intro v100031 w35 ho hb hg hat; rw [← Ny100030.out] at ho; replace HB := Aside0.mk (hb); replace HK := Aside0.mk (Kept.of_grown (S := (fun k_ => P0_ k_)) hg (by repeat (first | (with_reducible first | exact HK.out | apply Kept.alloc | apply Kept.drewN | apply Kept.drew) | exact HK.out)) (fun k_ e_ => (HO100025.out.1 k_ e_).1.1)); replace HR100029 := Aside0.mk ((show Kd.C (Kd.int .i64) w35 Ao31 y100026.length y100026 from by rw [Ny100026.out]; exact Kd.C_take (m := (x5_1 : Int).toNat) ((Kd.R_reads' (Kd.R_after (ok := (fun k_ => (P0_ k_ ∨ w.heap.size ≤ k_))) (HO_0.out) hg hat)).2.2) KL34.out)); replace HO_0 := Aside0.mk (Kd.R_after (ok := (fun k_ => (P0_ k_ ∨ w.heap.size ≤ k_))) (HO_0.out) hg hat); have HO100032 := Aside0.mk (ho); clear HO100025; clear ho hb hg hat) | ((with_reducible refine gate_builtin (b := .append) (xs := #[.tmp 39, .tmp 41]) rfl ?_); at_builtin; refine Kd.R_append (Kd.int .i64) (w0 := w0) w0.heap.size rfl (.tmp 39) (.tmp 41) 32 3 (.int .i64 0) 8 rfl Try.underlying32 info3 rfl (by decide) (by omega) v100031 y100030 a1 [.int .i64 a1] (fun k_ => (P0_ k_ ∨ w.heap.size ≤ k_) ∧ some k_ ≠ (.slice Ao31 l0.length co31 : Value).ownBlock) (fun _ => False) rfl rfl ?aP (fun _ hk => hk.elim) ?aF ?aO ?aB ?aS ?aL ?_; (case aP => exact rfl); (case aB => exact (by repeat (first | exact HB.out | apply below_alloc | apply pw_below_drewN | apply below_drew1))); (case aF => exact (fun k_ hk => ⟨(.inr (Nat.le_trans (by first | exact HK.out.1 | exact (show Kept w _ (fun k_ => P0_ k_) from by repeat (first | (with_reducible first | exact HK.out | apply Kept.alloc | apply Kept.drewN | apply Kept.drew) | exact HK.out)).1) hk)), Kd.fresh' (Kd.R_lt (HO_0.out)) k_ hk⟩)); (case aO => exact (HO100032.out)); (case aS => exact (below_size (by repeat (first | exact HB.out | apply below_alloc | apply pw_below_drewN | apply below_drew1)))); (case aL => have := LMc27.out; omega); intro v100034 w36 ho hb hg hat; rw [← Ny100033.out] at ho; replace HB := Aside0.mk (hb); replace HK := Aside0.mk (Kept.of_grown (S := (fun k_ => P0_ k_)) hg (by repeat (first | (with_reducible first | exact HK.out | apply Kept.alloc | apply Kept.drewN | apply Kept.drew) | exact HK.out)) (fun k_ e_ => (HO100032.out.1 k_ e_).1)); replace HR100029 := Aside0.mk ((show Kd.C (Kd.int .i64) w36 Ao31 y100026.length y100026 from by rw [Ny100026.out]; exact Kd.C_take (m := (x5_1 : Int).toNat) ((Kd.R_reads' (Kd.R_after (ok := (fun k_ => (P0_ k_ ∨ w.heap.size ≤ k_))) (HO_0.out) hg hat)).2.2) KL34.out)); replace HO_0 := Aside0.mk (Kd.R_after (ok := (fun k_ => (P0_ k_ ∨ w.heap.size ≤ k_))) (HO_0.out) hg hat); have HO100035 := Aside0.mk (ho); clear HO100032; clear ho hb hg hat; have q37 : (x5_1 : Int) ≤ ((l0.length : Int) : Int) := of_decide_eq_true (by assumption); obtain ⟨i037, hi037, _, hsz37, _⟩ := info_parts info3; have hroom37 : l0.length ≤ co31 := (Kd.R_reads' HO_0.out).2.1; have hC37 : Kd.C (Kd.int .i64) _ Ao31 l0.length l0 := (Kd.R_reads' HO_0.out).2.2; have q037 : (0 : Int) ≤ (x5_1 : Int) := of_decide_eq_true (by assumption); have hcut37 := cut_from (P := Try.prog) 32 3 .i64 Try.underlying32 hi037 1 hsz37 Ao31 l0.length co31 x5_1 q037 q37; have hr37 := Kd.C_drop (m := (x5_1 : Int).toNat) (c := co31) hC37 (by omega) hroom37; obtain ⟨A37, hA37⟩ : ∃ A1, A1 = (if co31 = (x5_1 : Int).toNat then Ao31 else (Ao31 : Option Addr).map (·.add ((x5_1 : Int).toNat * 1))) := ⟨_, rfl⟩; obtain ⟨c37, hc37⟩ : ∃ c1, c1 = co31 - (x5_1 : Int).toNat := ⟨_, rfl⟩; have hy37 : y100036.length = l0.length - (x5_1 : Int).toNat := (by rw [Ny100036.out, List.length_drop] <;> omega); rw [show (l0).drop (x5_1 : Int).toNat = y100036 from Ny100036.out.symm] at hr37; replace hr37 : Kd.C (Kd.int .i64) _ A37 y100036.length y100036 := (by rw [hA37]; exact hr37); rw [← hy37, ← hA37, ← hc37] at hcut37; have HR100039 := Aside0.mk hr37; have HC100039 := Aside0.mk (show y100036.length ≤ c37 from by rw [hy37, hc37]; exact Nat.sub_le_sub_right hroom37 _); clear hr37 hC37 hroom37 hi037 hsz37 hc37; have KY37 := Aside0.mk hy37; have KA37 := Aside0.mk hA37; clear hy37 hA37; have KL37 := Aside0.mk (show (x5_1 : Int).toNat ≤ l0.length from by omega); replace q37 := eq_true q37) | ((with_reducible refine gate_builtin (b := .append) (xs := #[.tmp 43, .tmp 46]) rfl ?_); at_builtin; refine Kd.R_append_rows (Kd.int .i64) (w0 := w0) w0.heap.size rfl (.tmp 43) (.tmp 46) 32 3 (.int .i64 0) 8 rfl Try.underlying32 info3 rfl (by decide) (by omega) v100034 y100033 y100036 _ _ _ (fun k_ => (P0_ k_ ∨ w.heap.size ≤ k_) ∧ some k_ ≠ (.slice Ao31 l0.length co31 : Value).ownBlock) (fun _ => False) rfl rfl ?aO ?aR (fun _ _ h => h) (fun _ h => h.elim) ?aF ?aB ?aS ?aL ?_; (case aR => repeat (first | exact (by repeat (first | (with_reducible exact HR100039.out) | (with_reducible refine Kd.C_alloc ?_ _) | (with_reducible refine Kd.C_drewN ?_ _) | (with_reducible refine Kd.C_drew ?_) | exact HR100039.out)) | (with_reducible refine Kd.C_alloc ?_ _) | (with_reducible refine Kd.C_drewN ?_ _) | (with_reducible refine Kd.C_drew ?_))); (case aB => exact (by repeat (first | exact HB.out | apply below_alloc | apply pw_below_drewN | apply below_drew1))); (case aF => exact (fun k_ hk => ⟨(.inr (Nat.le_trans (by first | exact HK.out.1 | exact (show Kept w _ (fun k_ => P0_ k_) from by repeat (first | (with_reducible first | exact HK.out | apply Kept.alloc | apply Kept.drewN | apply Kept.drew) | exact HK.out)).1) hk)), Kd.fresh' (Kd.R_lt (HO_0.out)) k_ hk⟩)); (case aO => exact (HO100035.out)); (case aS => exact (below_size (by repeat (first | exact HB.out | apply below_alloc | apply pw_below_drewN | apply below_drew1)))); (case aL => have := LMc30.out; omega); intro v100041 w38 ho hb hg hat; rw [← Ny100040.out] at ho; replace HB := Aside0.mk (hb); replace HK := Aside0.mk (Kept.of_grown (S := (fun k_ => P0_ k_)) hg (by repeat (first | (with_reducible first | exact HK.out | apply Kept.alloc | apply Kept.drewN | apply Kept.drew) | exact HK.out)) (fun k_ e_ => (HO100035.out.1 k_ e_).1)); replace HR100029 := Aside0.mk ((show Kd.C (Kd.int .i64) w38 Ao31 y100026.length y100026 from by rw [Ny100026.out]; exact Kd.C_take (m := (x5_1 : Int).toNat) ((Kd.R_reads' (Kd.R_after (ok := (fun k_ => (P0_ k_ ∨ w.heap.size ≤ k_))) (HO_0.out) hg hat)).2.2) KL34.out)); replace HR100039 := Aside0.mk ((show Kd.C (Kd.int .i64) w38 A37 y100036.length y100036 from by rw [Ny100036.out, KA37.out]; exact Kd.C_drop (m := (x5_1 : Int).toNat) (c := co31) ((Kd.R_reads' (Kd.R_after (ok := (fun k_ => (P0_ k_ ∨ w.heap.size ≤ k_))) (HO_0.out) hg hat)).2.2) KL37.out ((Kd.R_reads' (Kd.R_after (ok := (fun k_ => (P0_ k_ ∨ w.heap.size ≤ k_))) (HO_0.out) hg hat)).2.1))); replace HO_0 := Aside0.mk (Kd.R_after (ok := (fun k_ => (P0_ k_ ∨ w.heap.size ≤ k_))) (HO_0.out) hg hat); have HO100042 := Aside0.mk (ho); clear HO100035; clear ho hb hg hat))
         go_ret
         exact ⟨_, by first | rfl | (simp [errW_none, errW_some] <;> rfl) | (simp [*, errW_none, errW_some] <;> rfl), by exact Kd.R_mono HO100042.out (fun _ hk => hk.1), by repeat (first | exact HB.out | apply below_alloc | apply pw_below_drewN | apply below_drew1), by repeat (first | (with_reducible first | exact HK.out | apply Kept.alloc | apply Kept.drewN | apply Kept.drew) | exact HK.out)⟩
        ·rw [if_neg c30] at H
         exact absurd H (by simp)
       ·rw [if_neg c27] at H
        exact absurd H (by simp)
      ·rw [if_neg c26] at H
       exact absurd H (by simp)
     ·rw [if_neg c25] at H
      exact absurd H (by simp)
    ·rw [if_neg c24] at H
     exact absurd H (by simp)

end Go.Proofs.Ytalpegglbfobiaa.G

namespace Go.Proofs.Ytalpegglbfobiaa.G
open Go.RowKit Go.Proofs.YtalpegglbfobiaaW.PrintWords Go.Proofs.YtalpegglbfobiaaW.PrintLast Go.Proofs.YtalpegglbfobiaaW.PrintMore
attribute [local go_sem] max2_int min2_int max_two min_two max_three min_three max_four min_four   -- for this text's walks alone
set_option linter.unusedVariables false
set_option linter.unusedSimpArgs false

mutual
def papermillref04_ends.l0 : Nat → List (S55) → List (S55) → List Int → Int → Option (List Int)
 | 0, _, _, _, _ => none
 | k + 1, x0, x1, x5, x6 => if x6 < (x0.length : Int) then (if 0 ≤ x6 then ((papermillref04_with.f k x5 ((rd_T55 x0 x6).f0)).bind fun t87002 => ((papermillref04_with.f k t87002 ((rd_T55 x0 x6).f1)).bind fun t87006 => (papermillref04_ends.l0 k x0 x1 t87006 (wrap64 (x6 + 1))))) else (none)) else (papermillref04_ends.l1 k x1 x5 0)
def papermillref04_ends.l1 : Nat → List (S55) → List Int → Int → Option (List Int)
 | 0, _, _, _ => none
 | k + 1, x1, x5, x7 => if x7 < (x1.length : Int) then (if 0 ≤ x7 then ((papermillref04_with.f k x5 ((rd_T55 x1 x7).f0)).bind fun t87010 => ((papermillref04_with.f k t87010 ((rd_T55 x1 x7).f1)).bind fun t87014 => (papermillref04_ends.l1 k x1 t87014 (wrap64 (x7 + 1))))) else (none)) else (some x5)
end
def papermillref04_ends.f (k : Nat) (l0 : List (S55)) (l1 : List (S55)) : Option (List Int) := papermillref04_ends.l0 k l0 l1 ([] : List Int) 0
def papermillref04_ends.T5 : Bool × List (List Nat × List Nat) := (true, [([], []), ([], []), ([], []), ([1, 2], [1, 2]), ([3], [3]), ([4], [4]), ([0, 5], [0, 5]), ([], []), ([], []), ([7, 8], [7, 8]), ([9], [9]), ([10], [10]), ([6, 11, 6], [6, 11]), ([12, 12, 0, 1, 2, 3, 4, 5, 6, 7, 8, 9, 10, 11, 12], [0, 12])])
def papermillref04_ends.B5 : List Nat := [0, 0, 0, 6, 14, 30, 63, 0, 0, 384, 896, 1920, 4095, 8191]
theorem papermillref04_ends.tab5 : rtab .any (opsOf Try.f86 5) = papermillref04_ends.T5 := by kernel_rfl
theorem papermillref04_ends.bits5 : waitsOk papermillref04_ends.T5.2 papermillref04_ends.B5 = true := by kernel_rfl
def papermillref04_ends.T9 : Bool × List (List Nat × List Nat) := (true, [([], []), ([], []), ([], []), ([1, 2], [1, 2]), ([3], [3]), ([4], [4]), ([0, 5], [0, 5]), ([], []), ([], []), ([7, 8], [7, 8]), ([9], [9]), ([10], [10]), ([6, 11, 6], [6, 11]), ([12, 12, 0, 1, 2, 3, 4, 5, 6, 7, 8, 9, 10, 11, 12], [0, 12])])
def papermillref04_ends.B9 : List Nat := [0, 0, 0, 6, 14, 30, 63, 0, 0, 384, 896, 1920, 4095, 8191]
theorem papermillref04_ends.tab9 : rtab .any (opsOf Try.f86 9) = papermillref04_ends.T9 := by kernel_rfl
theorem papermillref04_ends.bits9 : waitsOk papermillref04_ends.T9.2 papermillref04_ends.B9 = true := by kernel_rfl
set_option maxHeartbeats 8000000 in
set_option maxRecDepth 100000 in
theorem papermillref04_ends.calls (k : Nat) (A0 : Option Addr) (c0 : Nat) (l0 : List (S55)) (A1 : Option Addr) (c1 : Nat) (l1 : List (S55)) (r : List Int) (w : World) (hr0 : Kd.C k55 w A0 l0.length l0) (hc0 : l0.length ≤ c0) (hr1 : Kd.C k55 w A1 l1.length l1) (hc1 : l1.length ≤ c1) (h : papermillref04_ends.f k l0 l1 = some r) :
  Calls Try.prog 86 #[.slice A0 l0.length c0, .slice A1 l1.length c1] w fun e w' => ∃ v0_ : Value, e = .returned (v0_) ∧ Kd.R (Kd.int .i64) 3 w' w.heap.size (fun _ => True) v0_ r ∧ Below w.heap.size w w' := by
 have HR0 := Aside0.mk hr0
 have HC0 := Aside0.mk hc0
 clear hr0 hc0
 have HR1 := Aside0.mk hr1
 have HC1 := Aside0.mk hc1
 clear hr1 hc1
 have HB := Aside0.mk (Below.refl w.heap.size w)
 have H : (papermillref04_ends.l0 k l0 l1 ([] : List Int) 0) = some r := h
 clear h
 have H' := Aside0.mk H
 clear H
 go_enter Try.func86, Try.ntmps86
 go_wp2
 go_loopg [5, 6] k (fun kq v5 v6 w' => ∃ (x5_1 : List Int) (x6_1 : Int), v6 = .int .i64 x6_1 ∧ Aside0 (papermillref04_ends.l0 kq l0 l1 x5_1 x6_1 = some r) ∧ Aside0 (kq ≤ k) ∧ Aside0 (Kd.R (Kd.int .i64) 3 w' w.heap.size (fun _ => True) v5 x5_1) ∧ Aside0 (Below w.heap.size w w'))
 case atStart => exact ⟨(([] : List Int)), (0), (by first | rfl | (simp; done) | (simp [*]; done)), H', ⟨Nat.le_refl _⟩, ⟨by first | exact Kd.R_nil _ _ _ _ _ | exact Kd.N_nil _ _ _ _ _ | exact Kd.V_nil _ _ _ _ _ | exact Kd.Q_nil _ _ _ _ _ | exact Kd.S_nil _ _ _ _ _⟩, ⟨by repeat (first | exact HB.out | apply below_alloc | apply pw_below_drewN | apply below_drew1)⟩⟩
 case round =>
  clear H'
  try clear c1
  try clear p2
  obtain ⟨x5_1, x6_1, rfl, HA, HK1, HO_5, HB⟩ := hrel
  cases gk with
  | zero => exact absurd HA.out (by simp [papermillref04_ends.l0])
  | succ k1 =>
   have H := HA.out
   clear HA
   simp only [papermillref04_ends.l0] at H
   by_cases c3 : x6_1 < (l0.length : Int)
   ·rw [if_pos c3] at H
    have c3b0 : decide (x6_1 < (l0.length : Int)) = true := decide_eq_true c3
    clear c3
    by_cases c4 : 0 ≤ x6_1
    ·rw [if_pos c4] at H
     have c4b0 : decide (0 ≤ x6_1) = true := decide_eq_true c4
     clear c4
     replace H := Option.bind_eq_some_iff.mp H
     obtain ⟨t87002, A50, H⟩ := H
     have A5 := Aside0.mk A50
     clear A50
     replace H := Option.bind_eq_some_iff.mp H
     obtain ⟨t87006, A60, H⟩ := H
     have A6 := Aside0.mk A60
     clear A60
     have H' := Aside0.mk H
     clear H
     try go_wp2
     replace HO_5 := Aside0.mk (Kd.R_drew HO_5.out)
     replace HB := Aside0.mk (below_drew1 HB.out)
     have p87001 : 0 ≤ (x6_1 : Int) := of_decide_eq_true (by assumption)
     have q87001 : x6_1 < (l0.length : Int) := of_decide_eq_true (by assumption)
     obtain ⟨ad87001, e87001, hx87001_0, hx87001_1⟩ := at_T55 HR0.out x6_1 p87001 q87001
     have hw87001_1 := hx87001_1
     have hw87001_0 := hx87001_0
     cases e87001
     replace hx87001_0 := (HB.out.cell (World.block_lt_of_cell? w _ hx87001_0)).trans hx87001_0
     replace hx87001_1 := (HB.out.cell (World.block_lt_of_cell? w _ hx87001_1)).trans hx87001_1
     replace p87001 := eq_true p87001
     replace q87001 := eq_true q87001
     have p87005 : 0 ≤ (x6_1 : Int) := of_decide_eq_true (by assumption)
     have q87005 : x6_1 < (l0.length : Int) := of_decide_eq_true (by assumption)
     obtain ⟨ad87005, e87005, hx87005_0, hx87005_1⟩ := at_T55 HR0.out x6_1 p87005 q87005
     have hw87005_1 := hx87005_1
     have hw87005_0 := hx87005_0
     obtain rfl : ad87001 = ad87005 := (by injection e87005)
     replace hx87005_0 := (HB.out.cell (World.block_lt_of_cell? w _ hx87005_0)).trans hx87005_0
     replace hx87005_1 := (HB.out.cell (World.block_lt_of_cell? w _ hx87005_1)).trans hx87005_1
     replace p87005 := eq_true p87005
     replace q87005 := eq_true q87005
     obtain ⟨Ao8, co8, eo8⟩ := Kd.R_slice HO_5.out
     (first | subst eo8 | (injection eo8 with f1_ f2_ f3_; have f4_ := f1_.symm; have f5_ := f3_.symm; clear f1_ f2_ f3_; subst f4_; subst f5_))
     refine start_ (n := 14) (S := fun w' => w'.cell? (ad87001.add ((x6_1).toNat * 2)) = some (.int .i64 ((rd_T55 l0 x6_1).f0)) ∧ w'.cell? ⟨(ad87001.add ((x6_1).toNat * 2)).block, (ad87001.add ((x6_1).toNat * 2)).off + 1, none⟩ = some (.int .i64 ((rd_T55 l0 x6_1).f1)) ∧ w'.cell? (ad87001.add ((x6_1).toNat * 2)) = some (.int .i64 ((rd_T55 l0 x6_1).f0)) ∧ w'.cell? ⟨(ad87001.add ((x6_1).toNat * 2)).block, (ad87001.add ((x6_1).toNat * 2)).off + 1, none⟩ = some (.int .i64 ((rd_T55 l0 x6_1).f1))) (ds := []) #[false, false, false, false, false, false, false, false, false, false, false, false, false, false] (by kernel_rfl) rfl rfl ⟨((HB.out.cell (World.block_lt_of_cell? w _ hw87001_0)).trans hw87001_0), ((HB.out.cell (World.block_lt_of_cell? w _ hw87001_1)).trans hw87001_1), ((HB.out.cell (World.block_lt_of_cell? w _ hw87005_0)).trans hw87005_0), ((HB.out.cell (World.block_lt_of_cell? w _ hw87005_1)).trans hw87005_1)⟩ (fun hHeld => ?_); refine with_tabW papermillref04_ends.tab5 papermillref04_ends.bits5 (fun HT_ HW_ => ?_)
     generalize wr.drew = w7 at HO_5 HB hx87001_0 hx87001_1 hx87005_0 hx87005_1 hHeld ⊢
     refine pu_ 0 (some 14) HT_ ?_
     refine pu_ 1 (some 15) HT_ ?_
     refine pu_ 2 (some 16) HT_ ?_
     refine pu_ 3 (some 17) HT_ ?_
     refine pu_ 4 (some 18) HT_ ?_
     refine pu_ 7 (some 21) HT_ ?_
     refine pu_ 8 (some 22) HT_ ?_
     refine pu_ 9 (some 23) HT_ ?_
     refine pu_ 10 (some 24) HT_ ?_
     refine tk_ 5 (some 19) HT_ HW_ hHeld ?_ (hy := .inl ⟨by rfl, by rintro w' ⟨s0, s1, s2, s3⟩; go_simp; with_reducible rfl⟩)
     refine tk_ 11 (some 25) HT_ HW_ hHeld ?_ (hy := .inl ⟨by rfl, by rintro w' ⟨s0, s1, s2, s3⟩; go_simp; with_reducible rfl⟩)
     refine one_ (i := 6) (N := some 20) #[true, true, true, true, true, true, true, true, true, true, true, true, false, false] rfl rfl (one_of HT_.out (by kernel_rfl)) (by decide) (fun K hK => ?_)
     refine goes_ Try.func99 (by kernel_rfl) rfl #[.slice Ao8 x5_1.length co8, .int .i64 ((rd_T55 l0 x6_1).f0)] (by rfl) rfl rfl (by (try simp only [List.map_toArray, List.map_cons, List.map_nil]); first | done | rfl | (simp only [List.length_drop, List.length_take]; rfl)) ?_
     with_reducible refine (papermillref04_with.calls k1 (fun k_ => some k_ = (.slice Ao8 x5_1.length co8 : Value).ownBlock) (.slice Ao8 x5_1.length co8) x5_1 ((rd_T55 l0 x6_1).f0) t87002 w _ ?side1 ?side2 A5.out).mono ?_
     (case side1 => repeat (first | exact HB.out | apply below_alloc | apply pw_below_drewN | apply below_drew1))
     (case side2 => exact Kd.R_tight rfl HO_5.out)
     rintro e w9 ⟨v87003, rfl, ho0, hb, hkp⟩
     refine ⟨_, rfl, ?_⟩
     have HO87004 := Aside0.mk (Kd.R_mono (ok' := fun k_ => True) ho0 (fun k_ hk_ => trivial))
     replace HB := Aside0.mk (hb)
     clear HO_5
     (try clear hb)
     (try clear hkp)
     (try clear ho0)
     obtain ⟨Ao10, co10, eo10⟩ := Kd.R_slice HO87004.out
     (first | subst eo10 | (injection eo10 with f1_ f2_ f3_; have f4_ := f1_.symm; have f5_ := f3_.symm; clear f1_ f2_ f3_; subst f4_; subst f5_))
     refine hK.out _ _ ⟨((HB.out.cell (World.block_lt_of_cell? w _ hw87001_0)).trans hw87001_0), ((HB.out.cell (World.block_lt_of_cell? w _ hw87001_1)).trans hw87001_1), ((HB.out.cell (World.block_lt_of_cell? w _ hw87005_0)).trans hw87005_0), ((HB.out.cell (World.block_lt_of_cell? w _ hw87005_1)).trans hw87005_1)⟩ (fun hHeld => ?_)
     clear hK K
     refine norm_ (a' := ?_) ?_ ?_
     rotate_left
     ·show Act.put _ (some 20) _ = _
      simp only [Act.put, List.setIfInBounds_toArray, List.set_cons_zero, List.set_cons_succ, i64_w, i32_w]
      rfl
     refine one_ (i := 12) (N := some 26) #[true, true, true, true, true, true, true, true, true, true, true, true, true, false] rfl rfl (one_of HT_.out (by kernel_rfl)) (by decide) (fun K hK => ?_)
     refine goes_ Try.func99 (by kernel_rfl) rfl #[.slice Ao10 t87002.length co10, .int .i64 ((rd_T55 l0 x6_1).f1)] (by rfl) rfl rfl (by (try simp only [List.map_toArray, List.map_cons, List.map_nil]); first | done | rfl | (simp only [List.length_drop, List.length_take]; rfl)) ?_
     with_reducible refine (papermillref04_with.calls k1 (fun k_ => some k_ = (.slice Ao10 t87002.length co10 : Value).ownBlock) (.slice Ao10 t87002.length co10) t87002 ((rd_T55 l0 x6_1).f1) t87006 w _ ?side1 ?side2 A6.out).mono ?_
     (case side1 => repeat (first | exact HB.out | apply below_alloc | apply pw_below_drewN | apply below_drew1))
     (case side2 => exact Kd.R_tight rfl HO87004.out)
     rintro e w11 ⟨v87007, rfl, ho0, hb, hkp⟩
     refine ⟨_, rfl, ?_⟩
     have HO87008 := Aside0.mk (Kd.R_mono (ok' := fun k_ => True) ho0 (fun k_ hk_ => trivial))
     replace HB := Aside0.mk (hb)
     clear HO87004
     (try clear hb)
     (try clear hkp)
     (try clear ho0)
     refine hK.out _ _ ⟨((HB.out.cell (World.block_lt_of_cell? w _ hw87001_0)).trans hw87001_0), ((HB.out.cell (World.block_lt_of_cell? w _ hw87001_1)).trans hw87001_1), ((HB.out.cell (World.block_lt_of_cell? w _ hw87005_0)).trans hw87005_0), ((HB.out.cell (World.block_lt_of_cell? w _ hw87005_1)).trans hw87005_1)⟩ (fun hHeld => ?_)
     clear hK K
     refine norm_ (a' := ?_) ?_ ?_
     rotate_left
     ·show Act.put _ (some 26) _ = _
      simp only [Act.put, List.setIfInBounds_toArray, List.set_cons_zero, List.set_cons_succ, i64_w, i32_w]
      rfl
     refine pu_ 13 (some 5) HT_ ?_
     refine done_ (done_of HT_.out (by kernel_rfl)) ?_
     try go_wp2
     go_roundg k1
     case measure => have := HK1.out; omega
     case rel => exact ⟨(t87006), (wrap64 (x6_1 + 1)), (by first | rfl | (simp; done) | (simp [*]; done)), H', ⟨by have := HK1.out; omega⟩, ⟨HO87008.out⟩, ⟨by repeat (first | exact HB.out | apply below_alloc | apply pw_below_drewN | apply below_drew1)⟩⟩
    ·rw [if_neg c4] at H
     exact absurd H (by simp)
   ·rw [if_neg c3] at H
    have c3b0 : decide (x6_1 < (l0.length : Int)) = false := decide_eq_false c3
    clear c3
    have H' := Aside0.mk H
    clear H
    go_wp2
    go_loopg [5, 7] k1 (fun kq v5 v7 w' => ∃ (x5_2 : List Int) (x7_2 : Int), v7 = .int .i64 x7_2 ∧ Aside0 (papermillref04_ends.l1 kq l1 x5_2 x7_2 = some r) ∧ Aside0 (kq ≤ k1) ∧ Aside0 (Kd.R (Kd.int .i64) 3 w' w.heap.size (fun _ => True) v5 x5_2) ∧ Aside0 (Below w.heap.size w w'))
    case atStart => exact ⟨(x5_1), (0), (by first | rfl | (simp; done) | (simp [*]; done)), H', ⟨Nat.le_refl _⟩, ⟨HO_5.out⟩, ⟨by repeat (first | exact HB.out | apply below_alloc | apply pw_below_drewN | apply below_drew1)⟩⟩
    case round =>
     clear H'
     try clear c1
     try clear p2
     try clear c3
     try clear c3b0
     try clear c4
     try clear c4b0
     try clear p6
     try clear c8
     try clear p8
     try clear q8
     try clear hx8
     try clear c9
     try clear hx87001_0
     try clear hx87001_1
     try clear hx87005_0
     try clear hx87005_1
     try clear p2
     try clear p87001
     try clear p87005
     try clear q87001
     try clear q87005
     obtain ⟨x5_2, x7_2, rfl, HA, HK2, HO_5, HB⟩ := hrel
     cases gk with
     | zero => exact absurd HA.out (by simp [papermillref04_ends.l1])
     | succ k2 =>
      have H := HA.out
      clear HA
      simp only [papermillref04_ends.l1] at H
      by_cases c12 : x7_2 < (l1.length : Int)
      ·rw [if_pos c12] at H
       have c12b0 : decide (x7_2 < (l1.length : Int)) = true := decide_eq_true c12
       clear c12
       by_cases c13 : 0 ≤ x7_2
       ·rw [if_pos c13] at H
        have c13b0 : decide (0 ≤ x7_2) = true := decide_eq_true c13
        clear c13
        replace H := Option.bind_eq_some_iff.mp H
        obtain ⟨t87010, A140, H⟩ := H
        have A14 := Aside0.mk A140
        clear A140
        replace H := Option.bind_eq_some_iff.mp H
        obtain ⟨t87014, A150, H⟩ := H
        have A15 := Aside0.mk A150
        clear A150
        have H' := Aside0.mk H
        clear H
        try go_wp2
        replace HO_5 := Aside0.mk (Kd.R_drew HO_5.out)
        replace HB := Aside0.mk (below_drew1 HB.out)
        have p87009 : 0 ≤ (x7_2 : Int) := of_decide_eq_true (by assumption)
        have q87009 : x7_2 < (l1.length : Int) := of_decide_eq_true (by assumption)
        obtain ⟨ad87009, e87009, hx87009_0, hx87009_1⟩ := at_T55 HR1.out x7_2 p87009 q87009
        have hw87009_1 := hx87009_1
        have hw87009_0 := hx87009_0
        cases e87009
        replace hx87009_0 := (HB.out.cell (World.block_lt_of_cell? w _ hx87009_0)).trans hx87009_0
        replace hx87009_1 := (HB.out.cell (World.block_lt_of_cell? w _ hx87009_1)).trans hx87009_1
        replace p87009 := eq_true p87009
        replace q87009 := eq_true q87009
        have p87013 : 0 ≤ (x7_2 : Int) := of_decide_eq_true (by assumption)
        have q87013 : x7_2 < (l1.length : Int) := of_decide_eq_true (by assumption)
        obtain ⟨ad87013, e87013, hx87013_0, hx87013_1⟩ := at_T55 HR1.out x7_2 p87013 q87013
        have hw87013_1 := hx87013_1
        have hw87013_0 := hx87013_0
        obtain rfl : ad87009 = ad87013 := (by injection e87013)
        replace hx87013_0 := (HB.out.cell (World.block_lt_of_cell? w _ hx87013_0)).trans hx87013_0
        replace hx87013_1 := (HB.out.cell (World.block_lt_of_cell? w _ hx87013_1)).trans hx87013_1
        replace p87013 := eq_true p87013
        replace q87013 := eq_true q87013
        obtain ⟨Ao17, co17, eo17⟩ := Kd.R_slice HO_5.out
        (first | subst eo17 | (injection eo17 with f1_ f2_ f3_; have f4_ := f1_.symm; have f5_ := f3_.symm; clear f1_ f2_ f3_; subst f4_; subst f5_))
        refine start_ (n := 14) (S := fun w' => w'.cell? (ad87009.add ((x7_2).toNat * 2)) = some (.int .i64 ((rd_T55 l1 x7_2).f0)) ∧ w'.cell? ⟨(ad87009.add ((x7_2).toNat * 2)).block, (ad87009.add ((x7_2).toNat * 2)).off + 1, none⟩ = some (.int .i64 ((rd_T55 l1 x7_2).f1)) ∧ w'.cell? (ad87009.add ((x7_2).toNat * 2)) = some (.int .i64 ((rd_T55 l1 x7_2).f0)) ∧ w'.cell? ⟨(ad87009.add ((x7_2).toNat * 2)).block, (ad87009.add ((x7_2).toNat * 2)).off + 1, none⟩ = some (.int .i64 ((rd_T55 l1 x7_2).f1))) (ds := []) #[false, false, false, false, false, false, false, false, false, false, false, false, false, false] (by kernel_rfl) rfl rfl ⟨((HB.out.cell (World.block_lt_of_cell? w _ hw87009_0)).trans hw87009_0), ((HB.out.cell (World.block_lt_of_cell? w _ hw87009_1)).trans hw87009_1), ((HB.out.cell (World.block_lt_of_cell? w _ hw87013_0)).trans hw87013_0), ((HB.out.cell (World.block_lt_of_cell? w _ hw87013_1)).trans hw87013_1)⟩ (fun hHeld => ?_); refine with_tabW papermillref04_ends.tab9 papermillref04_ends.bits9 (fun HT_ HW_ => ?_)
        generalize wr.drew = w16 at HO_5 HB hx87009_0 hx87009_1 hx87013_0 hx87013_1 hHeld ⊢
        refine pu_ 0 (some 33) HT_ ?_
        refine pu_ 1 (some 34) HT_ ?_
        refine pu_ 2 (some 35) HT_ ?_
        refine pu_ 3 (some 36) HT_ ?_
        refine pu_ 4 (some 37) HT_ ?_
        refine pu_ 7 (some 40) HT_ ?_
        refine pu_ 8 (some 41) HT_ ?_
        refine pu_ 9 (some 42) HT_ ?_
        refine pu_ 10 (some 43) HT_ ?_
        refine tk_ 5 (some 38) HT_ HW_ hHeld ?_ (hy := .inl ⟨by rfl, by rintro w' ⟨s0, s1, s2, s3⟩; go_simp; with_reducible rfl⟩)
        refine tk_ 11 (some 44) HT_ HW_ hHeld ?_ (hy := .inl ⟨by rfl, by rintro w' ⟨s0, s1, s2, s3⟩; go_simp; with_reducible rfl⟩)
        refine one_ (i := 6) (N := some 39) #[true, true, true, true, true, true, true, true, true, true, true, true, false, false] rfl rfl (one_of HT_.out (by kernel_rfl)) (by decide) (fun K hK => ?_)
        refine goes_ Try.func99 (by kernel_rfl) rfl #[.slice Ao17 x5_2.length co17, .int .i64 ((rd_T55 l1 x7_2).f0)] (by rfl) rfl rfl (by (try simp only [List.map_toArray, List.map_cons, List.map_nil]); first | done | rfl | (simp only [List.length_drop, List.length_take]; rfl)) ?_
        with_reducible refine (papermillref04_with.calls k2 (fun k_ => some k_ = (.slice Ao17 x5_2.length co17 : Value).ownBlock) (.slice Ao17 x5_2.length co17) x5_2 ((rd_T55 l1 x7_2).f0) t87010 w _ ?side1 ?side2 A14.out).mono ?_
        (case side1 => repeat (first | exact HB.out | apply below_alloc | apply pw_below_drewN | apply below_drew1))
        (case side2 => exact Kd.R_tight rfl HO_5.out)
        rintro e w18 ⟨v87011, rfl, ho0, hb, hkp⟩
        refine ⟨_, rfl, ?_⟩
        have HO87012 := Aside0.mk (Kd.R_mono (ok' := fun k_ => True) ho0 (fun k_ hk_ => trivial))
        replace HB := Aside0.mk (hb)
        clear HO_5
        (try clear hb)
        (try clear hkp)
        (try clear ho0)
        obtain ⟨Ao19, co19, eo19⟩ := Kd.R_slice HO87012.out
        (first | subst eo19 | (injection eo19 with f1_ f2_ f3_; have f4_ := f1_.symm; have f5_ := f3_.symm; clear f1_ f2_ f3_; subst f4_; subst f5_))
        refine hK.out _ _ ⟨((HB.out.cell (World.block_lt_of_cell? w _ hw87009_0)).trans hw87009_0), ((HB.out.cell (World.block_lt_of_cell? w _ hw87009_1)).trans hw87009_1), ((HB.out.cell (World.block_lt_of_cell? w _ hw87013_0)).trans hw87013_0), ((HB.out.cell (World.block_lt_of_cell? w _ hw87013_1)).trans hw87013_1)⟩ (fun hHeld => ?_)
        clear hK K
        refine norm_ (a' := ?_) ?_ ?_
        rotate_left
        ·show Act.put _ (some 39) _ = _
         simp only [Act.put, List.setIfInBounds_toArray, List.set_cons_zero, List.set_cons_succ, i64_w, i32_w]
         rfl
        refine one_ (i := 12) (N := some 45) #[true, true, true, true, true, true, true, true, true, true, true, true, true, false] rfl rfl (one_of HT_.out (by kernel_rfl)) (by decide) (fun K hK => ?_)
        refine goes_ Try.func99 (by kernel_rfl) rfl #[.slice Ao19 t87010.length co19, .int .i64 ((rd_T55 l1 x7_2).f1)] (by rfl) rfl rfl (by (try simp only [List.map_toArray, List.map_cons, List.map_nil]); first | done | rfl | (simp only [List.length_drop, List.length_take]; rfl)) ?_
        with_reducible refine (papermillref04_with.calls k2 (fun k_ => some k_ = (.slice Ao19 t87010.length co19 : Value).ownBlock) (.slice Ao19 t87010.length co19) t87010 ((rd_T55 l1 x7_2).f1) t87014 w _ ?side1 ?side2 A15.out).mono ?_
        (case side1 => repeat (first | exact HB.out | apply below_alloc | apply pw_below_drewN | apply below_drew1))
        (case side2 => exact Kd.R_tight rfl HO87012.out)
        rintro e w20 ⟨v87015, rfl, ho0, hb, hkp⟩
        refine ⟨_, rfl, ?_⟩
        have HO87016 := Aside0.mk (Kd.R_mono (ok' := fun k_ => True) ho0 (fun k_ hk_ => trivial))
        replace HB := Aside0.mk (hb)
        clear HO87012
        (try clear hb)
        (try clear hkp)
        (try clear ho0)
        refine hK.out _ _ ⟨((HB.out.cell (World.block_lt_of_cell? w _ hw87009_0)).trans hw87009_0), ((HB.out.cell (World.block_lt_of_cell? w _ hw87009_1)).trans hw87009_1), ((HB.out.cell (World.block_lt_of_cell? w _ hw87013_0)).trans hw87013_0), ((HB.out.cell (World.block_lt_of_cell? w _ hw87013_1)).trans hw87013_1)⟩ (fun hHeld => ?_)
        clear hK K
        refine norm_ (a' := ?_) ?_ ?_
        rotate_left
        ·show Act.put _ (some 45) _ = _
         simp only [Act.put, List.setIfInBounds_toArray, List.set_cons_zero, List.set_cons_succ, i64_w, i32_w]
         rfl
        refine pu_ 13 (some 5) HT_ ?_
        refine done_ (done_of HT_.out (by kernel_rfl)) ?_
        try go_wp2
        go_roundg k2
        case measure => have := HK1.out; have := HK2.out; omega
        case rel => exact ⟨(t87014), (wrap64 (x7_2 + 1)), (by first | rfl | (simp; done) | (simp [*]; done)), H', ⟨by have := HK1.out; have := HK2.out; omega⟩, ⟨HO87016.out⟩, ⟨by repeat (first | exact HB.out | apply below_alloc | apply pw_below_drewN | apply below_drew1)⟩⟩
       ·rw [if_neg c13] at H
        exact absurd H (by simp)
      ·rw [if_neg c12] at H
       have c12b0 : decide (x7_2 < (l1.length : Int)) = false := decide_eq_false c12
       clear c12
       obtain rfl := Option.some.inj H
       go_wp2
       go_ret
       exact ⟨_, by first | rfl | (simp [errW_none, errW_some] <;> rfl) | (simp [*, errW_none, errW_some] <;> rfl), by exact HO_5.out, by repeat (first | exact HB.out | apply below_alloc | apply pw_below_drewN | apply below_drew1)⟩

end Go.Proofs.Ytalpegglbfobiaa.G

namespace Go.Proofs.Ytalpegglbfobiaa.G
open Go.RowKit Go.Proofs.YtalpegglbfobiaaW.PrintWords Go.Proofs.YtalpegglbfobiaaW.PrintLast Go.Proofs.YtalpegglbfobiaaW.PrintMore
attribute [local go_sem] max2_int min2_int max_two min_two max_three min_three max_four min_four   -- for this text's walks alone
set_option linter.unusedVariables false
set_option linter.unusedSimpArgs false

def papermillref04_Has.l0 : Nat → List (S55) → Int → Int → Option (Bool)
 | 0, _, _, _ => none
 | k + 1, x0, x1, x5 => if x5 < (x0.length : Int) then (if 0 ≤ x5 then (if ((rd_T55 x0 x5).f0) ≤ x1 then (if x1 < ((rd_T55 x0 x5).f1) then (some true) else (papermillref04_Has.l0 k x0 x1 (wrap64 (x5 + 1)))) else (papermillref04_Has.l0 k x0 x1 (wrap64 (x5 + 1)))) else (none)) else (some false)
def papermillref04_Has.f (k : Nat) (l0 : List (S55)) (a1 : Int) : Option (Bool) := papermillref04_Has.l0 k l0 a1 0
set_option maxHeartbeats 8000000 in
set_option maxRecDepth 100000 in
theorem papermillref04_Has.calls (k : Nat) (A0 : Option Addr) (c0 : Nat) (l0 : List (S55)) (a1 : Int) (r : Bool) (w : World) (hr0 : Kd.C k55 w A0 l0.length l0) (hc0 : l0.length ≤ c0) (h : papermillref04_Has.f k l0 a1 = some r) :
  Calls Try.prog 29 #[.slice A0 l0.length c0, .int .i64 a1] w fun e w' => e = .returned (.bool r) ∧ Drawn0 w w' := by
 have HR0 := Aside0.mk hr0
 have HC0 := Aside0.mk hc0
 clear hr0 hc0
 have H : (papermillref04_Has.l0 k l0 a1 0) = some r := h
 clear h
 have H' := Aside0.mk H
 clear H
 go_enter Try.func29, Try.ntmps29
 go_wp2
 go_loopg [5] k (fun kq v5 w' => ∃ (x5_1 : Int), v5 = .int .i64 x5_1 ∧ Aside0 (papermillref04_Has.l0 kq l0 a1 x5_1 = some r) ∧ Aside0 (kq ≤ k) ∧ Drawn0 w w')
 case atStart => exact ⟨(0), (by first | rfl | (simp; done) | (simp [*]; done)), H', ⟨Nat.le_refl _⟩, by repeat (first | exact Drawn0.refl _ | apply Drawn0.step)⟩
 case round =>
  clear H'
  try clear c2
  try clear p2
  obtain ⟨x5_1, rfl, HA, HK1, ⟨m1, rfl⟩⟩ := hrel
  cases gk with
  | zero => exact absurd HA.out (by simp [papermillref04_Has.l0])
  | succ k1 =>
   have H := HA.out
   clear HA
   simp only [papermillref04_Has.l0] at H
   by_cases c3 : x5_1 < (l0.length : Int)
   ·rw [if_pos c3] at H
    have c3b0 : decide (x5_1 < (l0.length : Int)) = true := decide_eq_true c3
    clear c3
    by_cases c4 : 0 ≤ x5_1
    ·rw [if_pos c4] at H
     have c4b0 : decide (0 ≤ x5_1) = true := decide_eq_true c4
     clear c4
     by_cases c5 : ((rd_T55 l0 x5_1).f0) ≤ a1
     ·rw [if_pos c5] at H
      have c5b0 : decide (((rd_T55 l0 x5_1).f0) ≤ a1) = true := decide_eq_true c5
      clear c5
      by_cases c6 : a1 < ((rd_T55 l0 x5_1).f1)
      ·rw [if_pos c6] at H
       have c6b0 : decide (a1 < ((rd_T55 l0 x5_1).f1)) = true := decide_eq_true c6
       clear c6
       obtain rfl := Option.some.inj H
       have p30001 : 0 ≤ (x5_1 : Int) := of_decide_eq_true (by assumption)
       have q30001 : x5_1 < (l0.length : Int) := of_decide_eq_true (by assumption)
       obtain ⟨ad30001, e30001, hx30001_0, hx30001_1⟩ := at_T55 HR0.out x5_1 p30001 q30001
       cases e30001
       replace p30001 := eq_true p30001
       replace q30001 := eq_true q30001
       have p30002 : 0 ≤ (x5_1 : Int) := of_decide_eq_true (by assumption)
       have q30002 : x5_1 < (l0.length : Int) := of_decide_eq_true (by assumption)
       obtain ⟨ad30002, e30002, hx30002_0, hx30002_1⟩ := at_T55 HR0.out x5_1 p30002 q30002
       obtain rfl : ad30001 = ad30002 := (by injection e30002)
       replace p30002 := eq_true p30002
       replace q30002 := eq_true q30002
       go_wp2
       go_ret
       exact ⟨by first | rfl | (simp; done) | (simp [*]; done), by repeat (first | exact Drawn0.refl _ | apply Drawn0.step)⟩
      ·rw [if_neg c6] at H
       have c6b0 : decide (a1 < ((rd_T55 l0 x5_1).f1)) = false := decide_eq_false c6
       clear c6
       have H' := Aside0.mk H
       clear H
       have p30001 : 0 ≤ (x5_1 : Int) := of_decide_eq_true (by assumption)
       have q30001 : x5_1 < (l0.length : Int) := of_decide_eq_true (by assumption)
       obtain ⟨ad30001, e30001, hx30001_0, hx30001_1⟩ := at_T55 HR0.out x5_1 p30001 q30001
       cases e30001
       replace p30001 := eq_true p30001
       replace q30001 := eq_true q30001
       have p30002 : 0 ≤ (x5_1 : Int) := of_decide_eq_true (by assumption)
       have q30002 : x5_1 < (l0.length : Int) := of_decide_eq_true (by assumption)
       obtain ⟨ad30002, e30002, hx30002_0, hx30002_1⟩ := at_T55 HR0.out x5_1 p30002 q30002
       obtain rfl : ad30001 = ad30002 := (by injection e30002)
       replace p30002 := eq_true p30002
       replace q30002 := eq_true q30002
       go_wp2
       go_roundg k1
       case measure => have := HK1.out; omega
       case rel => exact ⟨(wrap64 (x5_1 + 1)), (by first | rfl | (simp; done) | (simp [*]; done)), H', ⟨by have := HK1.out; omega⟩, by repeat (first | exact Drawn0.refl _ | apply Drawn0.step)⟩
     ·rw [if_neg c5] at H
      have c5b0 : decide (((rd_T55 l0 x5_1).f0) ≤ a1) = false := decide_eq_false c5
      clear c5
      have H' := Aside0.mk H
      clear H
      have p30001 : 0 ≤ (x5_1 : Int) := of_decide_eq_true (by assumption)
      have q30001 : x5_1 < (l0.length : Int) := of_decide_eq_true (by assumption)
      obtain ⟨ad30001, e30001, hx30001_0, hx30001_1⟩ := at_T55 HR0.out x5_1 p30001 q30001
      cases e30001
      replace p30001 := eq_true p30001
      replace q30001 := eq_true q30001
      go_wp2
      go_roundg k1
      case measure => have := HK1.out; omega
      case rel => exact ⟨(wrap64 (x5_1 + 1)), (by first | rfl | (simp; done) | (simp [*]; done)), H', ⟨by have := HK1.out; omega⟩, by repeat (first | exact Drawn0.refl _ | apply Drawn0.step)⟩
    ·rw [if_neg c4] at H
     exact absurd H (by simp)
   ·rw [if_neg c3] at H
    have c3b0 : decide (x5_1 < (l0.length : Int)) = false := decide_eq_false c3
    clear c3
    obtain rfl := Option.some.inj H
    go_wp2
    go_ret
    exact ⟨by first | rfl | (simp; done) | (simp [*]; done), by repeat (first | exact Drawn0.refl _ | apply Drawn0.step)⟩

end Go.Proofs.Ytalpegglbfobiaa.G

namespace Go.Proofs.Ytalpegglbfobiaa.G
open Go.RowKit Go.Proofs.YtalpegglbfobiaaW.PrintWords Go.Proofs.YtalpegglbfobiaaW.PrintLast Go.Proofs.YtalpegglbfobiaaW.PrintMore
set_option linter.unusedVariables false
set_option linter.unusedSimpArgs false
theorem with_l0 (l : List Int) (n : Int) (hl : l.length < 1000000) : ∀ (d i : Nat), l.length - i = d → i ≤ l.length → Ends (fun k => papermillref04_with.l0 k l n (i : Int)) (l.take i ++ withOf (l.drop i) n) := by
 intro d
 induction d with
 | zero =>
  intro i hd hi
  rw [List.drop_of_length_le (by omega)]
  refine Ends.succ ?_
  simp only [papermillref04_with.l0, Option.bind_some, Int.toNat_natCast, List.nil_append]
  refine Ends.neg (by omega) (Ends.pos (by omega) (Ends.pos (by omega) (Ends.pos (by simp only [List.length_nil, List.length_take]; omega) (Ends.pos (by simp only [List.length_append, List.length_take]; omega) (Ends.pos (by simp only [List.length_append, List.length_take, List.length_drop, List.length_cons, List.length_nil]; omega) ?_)))))
  rw [List.drop_of_length_le (l := l) (i := i) (by omega)]
  simpa [withOf] using Ends.ret _
 | succ d ih =>
  intro i hd hi
  have hlen := List.length_drop (i := i) (l := l)
  rw [dropI l i (by omega)] at hlen
  rw [dropI l i (by omega)]
  refine Ends.succ ?_
  simp only [papermillref04_with.l0, Option.bind_some, Int.toNat_natCast, List.nil_append, wrap_nat i (by omega)]
  refine Ends.pos (by omega) (Ends.pos (by omega) ?_)
  by_cases h1 : rd l i < n
  ·refine Ends.pos h1 ?_
   have := ih (i + 1) (by omega) (by omega)
   rw [List.take_succ_eq_append_getElem (by omega), ← rdI l i (by omega)] at this
   simpa [withOf, h1] using this
  ·refine Ends.neg h1 ?_
   by_cases h2 : rd l i = n
   ·refine Ends.pos h2 ?_
    have e : l.take i ++ withOf (rd l i :: l.drop (i + 1)) n = l := by
     rw [withOf, if_neg h1, if_pos h2, ← dropI l i (by omega), List.take_append_drop]
    rw [e]; exact Ends.ret _
   ·refine Ends.neg h2 (Ends.pos (by omega) (Ends.pos (by simp only [List.length_nil, List.length_take]; omega) (Ends.pos (by simp only [List.length_take]; omega) (Ends.pos (by simp only [List.length_append, List.length_take, List.length_drop, List.length_cons, List.length_nil]; omega) ?_))))
    rw [withOf, if_neg h1, if_neg h2, ← dropI l i (by omega)]
    simpa using Ends.ret _
theorem with_ends (l : List Int) (n : Int) (hl : l.length < 1000000) : Ends (fun k => papermillref04_with.f k l n) (withOf l n) := by
 simpa [papermillref04_with.f] using with_l0 l n hl l.length 0 rfl (Nat.zero_le _)
theorem ends_l1 (b : List S55) (hb : b.length ≤ 256) : ∀ (d i : Nat) (o : List Int), b.length - i = d → i ≤ b.length → o.length + 2 * d < 1000000 → Ends (fun k => papermillref04_ends.l1 k b o (i : Int)) ((b.drop i).foldl endStep o) := by
 intro d
 induction d with
 | zero =>
  intro i o hd hi ho
  rw [List.drop_of_length_le (by omega)]
  refine Ends.succ ?_
  simp only [papermillref04_ends.l1]
  exact Ends.neg (by omega) (Ends.ret _)
 | succ d ih =>
  intro i o hd hi ho
  rw [drop36 b i (by omega), List.foldl_cons]
  refine Ends.succ ?_
  simp only [papermillref04_ends.l1, wrap_nat i (by omega)]
  have h1 := withOf_len o (rd_T55 b i).f0
  have h2 := endStep_len o (rd_T55 b i)
  exact Ends.pos (by omega) (Ends.pos (by omega) (Ends.bind (with_ends _ _ (by omega)) (Ends.bind (with_ends _ _ (by omega)) (ih (i + 1) _ (by omega) (by omega) (by show (endStep o (rd_T55 b i)).length + _ < _; omega)))))
theorem ends_l0 (a b : List S55) (ha : a.length ≤ 256) (hb : b.length ≤ 256) : ∀ (d i : Nat) (o : List Int), a.length - i = d → i ≤ a.length → o.length + 2 * d < 900000 → Ends (fun k => papermillref04_ends.l0 k a b o (i : Int)) (b.foldl endStep ((a.drop i).foldl endStep o)) := by
 intro d
 induction d with
 | zero =>
  intro i o hd hi ho
  rw [List.drop_of_length_le (by omega)]
  refine Ends.succ ?_
  simp only [papermillref04_ends.l0]
  exact Ends.neg (by omega) (by simpa using ends_l1 b hb b.length 0 o rfl (Nat.zero_le _) (by omega))
 | succ d ih =>
  intro i o hd hi ho
  rw [drop36 a i (by omega), List.foldl_cons]
  refine Ends.succ ?_
  simp only [papermillref04_ends.l0, wrap_nat i (by omega)]
  have h1 := withOf_len o (rd_T55 a i).f0
  have h2 := endStep_len o (rd_T55 a i)
  exact Ends.pos (by omega) (Ends.pos (by omega) (Ends.bind (with_ends _ _ (by omega)) (Ends.bind (with_ends _ _ (by omega)) (ih (i + 1) _ (by omega) (by omega) (by show (endStep o (rd_T55 a i)).length + _ < _; omega)))))
theorem ends_ends (a b : List S55) (ha : a.length ≤ 256) (hb : b.length ≤ 256) : Ends (fun k => papermillref04_ends.f k a b) (endsOf a b) := by
 simpa [papermillref04_ends.f, endsOf] using ends_l0 a b ha hb a.length 0 [] rfl (Nat.zero_le _) (by simp; omega)
theorem has_l0 (l : List S55) (x : Int) (hl : l.length < 1000000) : ∀ (d i : Nat), l.length - i = d → i ≤ l.length → Ends (fun k => papermillref04_Has.l0 k l x (i : Int)) (hasOf (l.drop i) x) := by
 intro d
 induction d with
 | zero =>
  intro i hd hi
  rw [List.drop_of_length_le (by omega)]
  refine Ends.succ ?_
  simp only [papermillref04_Has.l0]
  exact Ends.neg (by omega) (Ends.ret _)
 | succ d ih =>
  intro i hd hi
  have := ih (i + 1) (by omega) (by omega)
  rw [drop36 l i (by omega)]
  refine Ends.succ ?_
  simp only [papermillref04_Has.l0, wrap_nat i (by omega)]
  refine Ends.pos (by omega) (Ends.pos (by omega) ?_)
  by_cases h1 : (rd_T55 l i).f0 ≤ x
  ·refine Ends.pos h1 ?_
   by_cases h2 : x < (rd_T55 l i).f1
   ·refine Ends.pos h2 ?_
    simpa [hasOf, h1, h2] using Ends.ret true
   ·refine Ends.neg h2 ?_
    simpa [hasOf, h1, h2] using this
  ·refine Ends.neg h1 ?_
   simpa [hasOf, h1] using this
theorem has_ends (l : List S55) (x : Int) (hl : l.length < 1000000) : Ends (fun k => papermillref04_Has.f k l x) (hasOf l x) := by
 simpa [papermillref04_Has.f] using has_l0 l x hl l.length 0 rfl (Nat.zero_le _)
end Go.Proofs.Ytalpegglbfobiaa.G

namespace Go.Proofs.Ytalpegglbfobiaa.G
open Go.RowKit Go.Proofs.YtalpegglbfobiaaW.PrintWords Go.Proofs.YtalpegglbfobiaaW.PrintLast Go.Proofs.YtalpegglbfobiaaW.PrintMore
set_option linter.unusedVariables false
set_option linter.unusedSimpArgs false
end Go.Proofs.Ytalpegglbfobiaa.G

namespace Go.Proofs.Ytalpegglbfobiaa.G
open Go.RowKit Go.Proofs.YtalpegglbfobiaaW.PrintWords Go.Proofs.YtalpegglbfobiaaW.PrintLast Go.Proofs.YtalpegglbfobiaaW.PrintMore
set_option linter.unusedVariables false
set_option linter.unusedSimpArgs false
def papermillref04_combine.f (l0 l1 : List S55) (a2 : Int) : Option (List S55) := if l0.length ≤ 256 ∧ l1.length ≤ 256 ∧ (a2 = 0 ∨ a2 = 1 ∨ a2 = 2) then some (combOf l0 l1 a2) else none
theorem comb_next (a b : List S55) (w : Int) (cuts : List Int) (i : Nat) (hi : i + 1 < cuts.length) (O r : List S55) (h : combGo a b w O (cuts.drop i) = r) :
  combGo a b w (if skips w (hasOf a (rd cuts i)) (hasOf b (rd cuts i)) = true then O else push O (rd cuts i) (rd cuts (i + 1 : Nat))) (cuts.drop (i + 1)) = r := by
 rw [dropI cuts i (by omega), dropI cuts (i + 1) hi, combGo] at h
 rw [dropI cuts (i + 1) hi]
 exact h
theorem push_app (O : List S55) (x y : Int) (h : ∀ m : Nat, O.length = m + 1 → (rd_T55 O (m : Int)).f1 ≠ x) : push O x y = O ++ [⟨x, y⟩] := by
 by_cases h0 : O.length = 0
 ·rw [List.length_eq_zero_iff.1 h0]; rfl
 ·have := h (O.length - 1) (by omega)
  simp [push, getLast_rd O h0, this]
theorem push_ext (O : List S55) (x y : Int) (m : Nat) (hm : O.length = m + 1) (t : S55) (ht : rd_T55 O (m : Int) = t) (h : t.f1 = x) : push O x y = O.set m ⟨t.f0, y⟩ := by
 have h0 : O.length ≠ 0 := by omega
 have e : O.length - 1 = m := by omega
 have h1 := getLast_rd O h0
 have h2 := dropLast_set O h0 ⟨t.f0, y⟩
 rw [e, ht] at h1
 rw [e] at h2
 rw [h2]
 simp [push, h1, h]
def papermillref04_combine.T11 : Bool × List (List Nat × List Nat) := (true, [([], []), ([], []), ([], []), ([1, 2], [1, 2]), ([3], [3]), ([], []), ([], []), ([6], [6]), ([5, 7], [5, 7]), ([8], [8]), ([4, 9], [4, 9]), ([10], [10]), ([0, 11], [0, 11]), ([12, 12, 0, 1, 2, 3, 4, 5, 6, 7, 8, 9, 10, 11, 12], [0, 12])])
def papermillref04_combine.B11 : List Nat := [0, 0, 0, 6, 14, 0, 0, 64, 224, 480, 1022, 2046, 4095, 8191]
theorem papermillref04_combine.tab11 : rtab .any (opsOf Try.f79 11) = papermillref04_combine.T11 := by kernel_rfl
theorem papermillref04_combine.bits11 : waitsOk papermillref04_combine.T11.2 papermillref04_combine.B11 = true := by kernel_rfl
theorem kspn_sz : (k55).sz = 2 := rfl
set_option maxRecDepth 100000 in
set_option maxHeartbeats 16000000 in
theorem comb_main (A0 : Option Addr) (c0 : Nat) (a : List S55) (A1 : Option Addr) (c1 : Nat) (b : List S55) (y : Int) (w : World) (hr0 : Kd.C k55 w A0 a.length a) (hc0 : a.length ≤ c0) (hr1 : Kd.C k55 w A1 b.length b) (hc1 : b.length ≤ c1) (ha : a.length ≤ 256) (hb : b.length ≤ 256) (hy : y = 0 ∨ y = 1 ∨ y = 2) :
  Calls Try.prog 79 #[.slice A0 a.length c0, .slice A1 b.length c1, .int .i64 y] w fun e w' => ∃ v : Value, e = .returned v ∧ Kd.R k55 55 w' w.heap.size (fun _ => True) v (combOf a b y) ∧ Below w.heap.size w w' := by
 have HR0 := Aside0.mk hr0
 have HC0 := Aside0.mk hc0
 have HR1 := Aside0.mk hr1
 have HC1 := Aside0.mk hc1
 obtain ⟨ke, hke⟩ := (ends_ends a b ha hb).get
 have HE := Aside0.mk hke
 obtain ⟨cuts, hcuts⟩ : ∃ z, z = endsOf a b := ⟨_, rfl⟩
 have hlc := endsOf_len a b
 rw [← hcuts] at hlc HE
 have HRES := Aside0.mk (show combGo a b y [] cuts = combOf a b y by rw [hcuts]; rfl)
 have HL := Aside0.mk (show cuts.length ≤ 2000 by omega)
 generalize combOf a b y = RES at *
 have HHA := Aside0.mk (fun x => (has_ends a x (by omega)).get)
 have HHB := Aside0.mk (fun x => (has_ends b x (by omega)).get)
 clear hr0 hc0 hr1 hc1 hke hcuts hlc ha hb
 go_enter Try.func79, Try.ntmps79
 go_wp2_with (go_at_call 86; (with_reducible refine (papermillref04_ends.calls ke A0 c0 a A1 c1 b cuts _ HR0.out HC0.out HR1.out HC1.out HE.out).mono ?_); rintro e w1 ⟨v1, rfl, ho, hb1⟩; obtain ⟨Ac, cc, rfl⟩ := Kd.R_slice ho; have HCU := Aside0.mk (Kd.R_reads' ho).2.2; have HB1 := Aside0.mk hb1; clear ho hb1)
 have HR10 := Aside0.mk (Kd.C_below HR0.out HB1.out)
 have HR11 := Aside0.mk (Kd.C_below HR1.out HB1.out)
 go_loopw [8, 9] (fun v i wr => ∃ (kk : Nat) (O : List S55), i = .int .i64 kk ∧ Aside0 (kk ≤ cuts.length) ∧ Aside0 (O.length ≤ kk) ∧ Aside0 (combGo a b y O (cuts.drop kk) = RES) ∧ Aside0 (Kd.R k55 55 wr w1.heap.size (fun _ => True) v O) ∧ Aside0 (Below w1.heap.size w1 wr))
  (fun _ i _ => cuts.length - (intOf i).toNat)
 case atStart => exact ⟨0, [], rfl, ⟨Nat.zero_le _⟩, ⟨Nat.zero_le _⟩, ⟨by simpa using HRES.out⟩, ⟨Kd.R_nil _ _ _ _ _⟩, ⟨Below.refl _ _⟩⟩
 case round =>
  obtain ⟨kk, O, rfl, HK, HOL, HGO, HO, HB⟩ := hrel
  have hlc := HL.out
  have hkl := HK.out
  have hol := HOL.out
  have hwk : wrap64 ((kk : Int) + 1) = ((kk + 1 : Nat) : Int) := wrap_nat kk (by omega)
  have hwk1 : IntKind.i64.wrap ((kk : Int) + 1) = ((kk + 1 : Nat) : Int) := by rw [i64_w]; exact hwk
  by_cases hk : kk + 1 < cuts.length
  ·have hd0 : decide (((kk + 1 : Nat) : Int) < (cuts.length : Int)) = true := decide_eq_true (by omega)
   have hd1 : decide (kk + 1 < cuts.length) = true := decide_eq_true hk
   have hkA : (kk : Int) < (cuts.length : Int) := by omega
   have hkB : ((kk + 1 : Nat) : Int) < (cuts.length : Int) := by omega
   have hkC : ((kk : Int) + 1 < (cuts.length : Int)) = True := eq_true (by omega)
   have hkD : (0 ≤ (kk : Int) + 1) = True := eq_true (by omega)
   have hkE : ((kk : Int) + 1).toNat = kk + 1 := by omega
   obtain ⟨ad, rfl, hz0⟩ := Kd.at_int (Kd.C_below HCU.out HB.out) (kk : Int) (by omega) (by omega)
   obtain ⟨ad', ead, hz1⟩ := Kd.at_int (Kd.C_below HCU.out HB.out) ((kk + 1 : Nat) : Int) (by omega) (by omega)
   obtain rfl := Option.some.inj ead
   simp only [Int.toNat_natCast] at hz0 hz1
   have HN := Aside0.mk (comb_next a b y cuts kk hk O RES HGO.out)
   obtain ⟨k1, hk1⟩ := HHA.out (rd cuts kk)
   obtain ⟨k2, hk2⟩ := HHB.out (rd cuts kk)
   have CA := Aside0.mk (fun n => (papermillref04_Has.calls k1 A0 c0 a (rd cuts kk) _ _ (Kd.C_drewN (Kd.C_below HR10.out HB.out) n) HC0.out hk1).mono fun e w' h => (⟨h.1, h.2.out⟩ : _ ∧ ∃ m, w' = (wr.drewN n).drewN m))
   have CB := Aside0.mk (fun n => (papermillref04_Has.calls k2 A1 c1 b (rd cuts kk) _ _ (Kd.C_drewN (Kd.C_below HR11.out HB.out) n) HC1.out hk2).mono fun e w' h => (⟨h.1, h.2.out⟩ : _ ∧ ∃ m, w' = (wr.drewN n).drewN m))
   clear hk1 hk2
   have HZ := Aside0.mk (show ∀ W, Below w1.heap.size w1 W → W.cell? (ad.add kk) = some (.int .i64 (rd cuts kk)) ∧ W.cell? (ad.add (kk + 1)) = some (.int .i64 (rd cuts ((kk + 1 : Nat) : Int))) from fun W h => by
    obtain ⟨x1, e1, h1⟩ := Kd.at_int (Kd.C_below HCU.out h) (kk : Int) (by omega) (by omega)
    obtain ⟨x2, e2, h2⟩ := Kd.at_int (Kd.C_below HCU.out h) ((kk + 1 : Nat) : Int) (by omega) (by omega)
    obtain rfl := Option.some.inj e1
    obtain rfl := Option.some.inj e2
    simp only [Int.toNat_natCast] at h1 h2
    exact ⟨h1, h2⟩)
   generalize rd cuts (kk : Int) = X at *
   generalize rd cuts ((kk + 1 : Nat) : Int) = Y at *
   generalize hasOf a X = p at *
   generalize hasOf b X = q at *
   obtain ⟨A7, c7, e7⟩ := Kd.R_slice HO.out
   subst e7
   go_wp2
   go_quiet (first | (go_at_call 29; with_reducible exact Calls.quiet_of (CA.out _)) | (go_at_call 29; with_reducible exact Calls.quiet_of (CB.out _)))
   have HB5 := Aside0.mk (pw_below_drewN HB.out nq)
   have HO5 := Aside0.mk (Kd.R_drewN HO.out nq)
   clear CA CB HB HO hz0 hz1
   generalize wr.drewN nq = w5 at *
   obtain ⟨hz0, hz1⟩ := HZ.out w5 HB5.out
   by_cases hsk : skips y p q = true
   ·have HN1 := Aside0.mk (show combGo a b y O (cuts.drop (kk + 1)) = RES by have := HN.out; rwa [if_pos hsk] at this)
    clear HN
    rcases hy with rfl | rfl | rfl <;> cases p <;> cases q <;> first | exact absurd hsk (by decide) | skip
    all_goals
     clear hsk
     go_wp2
     go_roundw
     case rel => exact ⟨kk + 1, O, by go_num, ⟨by omega⟩, ⟨by omega⟩, HN1, HO5, HB5⟩
     case measure => simp [intOf]; omega
   ·have HN1 := Aside0.mk (show combGo a b y (push O X Y) (cuts.drop (kk + 1)) = RES by have := HN.out; rwa [if_neg hsk] at this)
    clear HN
    by_cases hjo : ∃ (m : Nat) (t : S55), O.length = m + 1 ∧ rd_T55 O (m : Int) = t ∧ t.f1 = X
    ·obtain ⟨m, t, hm, ht, hx⟩ := hjo
     rw [push_ext O X Y m hm t ht hx] at HN1
     obtain ⟨g7, c7', eo, gb, _, _, _⟩ := Kd.R_form HO5.out (by omega)
     injection eo with ea en ec
     subst ea
     have GB := Aside0.mk gb
     clear gb en ec
     obtain ⟨ad7, e7a, hy0, hy1⟩ := at_T55 (Kd.R_reads' HO5.out).2.2 (m : Int) (by omega) (by omega)
     injection e7a with e7a
     subst e7a
     simp only [add_plain, Int.toNat_natCast] at hy0 hy1
     rw [ht] at hy0 hy1
     have hjb : (t.f1 == X) = true := by simpa using hx
     have hw1 : IntKind.i64.wrap (m : Int) = (m : Int) := by rw [i64_w]; unfold wrap64; omega
     have hm0 : 0 ≤ (m : Int) := by omega
     have hmt : ((m : Int)).toNat = m := by omega
     have hmm : ((m : Int) < (m : Int) + 1) = True := eq_true (by omega)
     rw [hm] at HO5
     have HT := Aside0.mk ht
     clear ht hx
     rw [hm]
     rcases hy with rfl | rfl | rfl <;> cases p <;> cases q <;> first | exact absurd rfl hsk | skip
     all_goals
      clear hsk
      go_wp2
      go_quiet (fail)
      have HB6 := Aside0.mk (pw_below_drewN HB5.out nq)
      have HO6 := Aside0.mk (Kd.R_drewN HO5.out nq)
      clear HB5 HO5 hz0 hz1 hy0 hy1
      generalize w5.drewN nq = w6 at *
      obtain ⟨hz0, hz1⟩ := HZ.out w6 HB6.out
      have hz2 : w6.cell? ⟨ad.block, ad.off + (kk + 1), none⟩ = some (.int .i64 Y) := hz1
      obtain ⟨ad7, e7a, hy0, hy1⟩ := at_T55 (Kd.R_reads' HO6.out).2.2 (m : Int) (by omega) (by omega)
      injection e7a with e7a
      subst e7a
      simp only [add_plain, Int.toNat_natCast] at hy0 hy1
      rw [HT.out] at hy0 hy1
      obtain ⟨ce, hcl, hM, hcc, hfr⟩ := Kd.R_elem HO6.out z55 (m : Int) (by omega) (by omega)
      obtain rfl := k55_openM hM
      have hf1 : w6.frozen? ⟨g7, m * 2 + 1, none⟩ = false := by have := hfr 1; rwa [hmt] at this
      have HP := Aside0.mk (Kd.R_seg HO6.out (m : Int) (by omega) (by omega) (seg := [.int .i64 Y]) (j := 1) hcl hcc (show 2 ≤ 2 from by decide) (x' := (⟨t.f0, Y⟩ : S55)) (by rw [show O.getD (m : Int).toNat z55 = t from HT.out]; exact k55_mkM _ _ _ ⟨t.f0, Y⟩) (fun _ hk => hk))
      clear hcl hcc hfr hM
      go_wp2_with ((with_reducible refine gate_store (t := 3) (p := 92) rfl ?_); refine store_event (t := 3) (p := 92) (v := ?vo) (w1 := w6.setCell ⟨g7, m * 2 + 1, none⟩ (.int .i64 Y)) ?hg ?ho ?hn ?hr ?_; (case ho => rfl); (case hg => rfl); (case hn => rfl); (case hr => first | (go_simp; done) | (go_simp; rfl)); intro w7 hw; have HO7 := Aside0.mk (show Kd.R k55 55 w7 w1.heap.size (fun _ => True) (.slice (some ⟨g7, 0, none⟩) (m + 1) c7) (O.set m ⟨t.f0, Y⟩) from by rw [hw]; have := HP.out.1; rwa [hmt] at this); have HB7 := Aside0.mk (show Below w1.heap.size w1 w7 from by rw [hw]; exact below_set HB6.out GB.out); clear hw)
      go_roundw
      case rel => exact ⟨kk + 1, O.set m ⟨t.f0, Y⟩, by go_num, ⟨by omega⟩, ⟨by rw [List.length_set]; omega⟩, HN1, HO7, HB7⟩
      case measure => simp [intOf]; omega
    ·have hpu := push_app O X Y (fun m hm h => hjo ⟨m, _, hm, rfl, h⟩)
     rw [hpu] at HN1
     have HJO := Aside0.mk hjo
     clear hpu hjo
     rcases Nat.eq_zero_or_pos O.length with h0 | h0
     case' inr =>
      obtain ⟨m, hm⟩ : ∃ m, O.length = m + 1 := ⟨O.length - 1, by omega⟩
      obtain ⟨g7, e7a⟩ : ∃ g7, A7 = some ⟨g7, 0, none⟩ := by
       obtain ⟨inner, hown⟩ := Kd.R_own HO5.out
       rcases hown.2 with ⟨e0, e1⟩ | ⟨g, cap, cur, e0, _⟩
       ·omega
       ·injection e0 with e1 _ _; exact ⟨g, e1⟩
      subst e7a
      obtain ⟨ad7, e7a, hy0, hy1⟩ := at_T55 (Kd.R_reads' HO5.out).2.2 (m : Int) (by omega) (by omega)
      injection e7a with e7a
      subst e7a
      simp only [add_plain, Int.toNat_natCast] at hy0 hy1
      have hjb : ((rd_T55 O (m : Int)).f1 == X) = false := by simpa using fun h => HJO.out ⟨m, _, hm, rfl, h⟩
      have hw1 : IntKind.i64.wrap (m : Int) = (m : Int) := by rw [i64_w]; unfold wrap64; omega
      have hm0 : 0 ≤ (m : Int) := by omega
      have hmm : ((m : Int) < (m : Int) + 1) = True := eq_true (by omega)
      generalize rd_T55 O (m : Int) = t at *
      rw [hm] at HO5
      rw [hm]
     case' inl =>
      rw [h0] at HO5
      rw [h0]
     all_goals
      clear h0
      rcases hy with rfl | rfl | rfl <;> cases p <;> cases q <;> first | exact absurd rfl hsk | skip
     all_goals
      clear hsk
      go_wp2
      go_quiet (fail)
      have HB6 := Aside0.mk (below_drew1 (pw_below_drewN HB5.out nq))
      have HO6 := Aside0.mk (Kd.R_drew (Kd.R_drewN HO5.out nq))
      obtain ⟨hu0, hu1⟩ := HZ.out _ HB6.out
      try clear hy0 hy1
      clear hz0 hz1
      go_wp2
      refine start_ (n := 14) (S := fun w' => w'.cell? (ad.add kk) = some (.int .i64 X) ∧ w'.cell? ⟨ad.block, ad.off + (kk + 1), none⟩ = some (.int .i64 Y)) (ds := [11, 12]) #[false, false, false, false, false, false, false, false, false, false, false, false, false, false] (by kernel_rfl) rfl rfl ⟨hu0, hu1⟩ (fun hHeld => ?_); refine with_tabW papermillref04_combine.tab11 papermillref04_combine.bits11 (fun HT_ HW_ => ?_)
      generalize (w5.drewN nq).drew = w6 at HO6 HB6 hu0 hu1 hHeld ⊢
      refine pu_ 0 (some 93) HT_ ?_
      refine pu_ 1 (some 94) HT_ ?_
      refine pu_ 2 (some 95) HT_ ?_
      refine pu_ 3 (some 96) HT_ ?_
      refine pu_ 5 (some 98) HT_ ?_
      refine pu_ 6 (some 99) HT_ ?_
      refine pu_ 7 (some 100) HT_ ?_
      refine pu_ 8 (some 101) HT_ ?_
      refine tk_ 4 (some 97) HT_ HW_ hHeld ?_ (hy := .inl ⟨by rfl, by rintro w' ⟨s0, s1⟩; go_simp; with_reducible rfl⟩)
      refine tk_ 9 (some 102) HT_ HW_ hHeld ?_ (hy := .inl ⟨by rfl, by rintro w' ⟨s0, s1⟩; go_simp; with_reducible rfl⟩)
      refine pu_ 10 (some 103) HT_ ?_
      refine last_ (i := 11) (N := some 104) #[true, true, true, true, true, true, true, true, true, true, true, true, false, false] rfl rfl (one_of HT_.out (by kernel_rfl)) (by decide) (fun K hK => ?_)
      refine value_ (w1 := ?_) (v := ?_) (by rfl) rfl ?_ ?_
      rotate_left 2
      ·go_simp
       constructor
       ·rfl
       ·rfl
      refine hK.out _ _ ?_
      clear hK K
      refine norm_ (a' := ?_) ?_ ?_
      rotate_left
      ·show Act.put _ (some 104) _ = _
       simp only [Act.put, List.setIfInBounds_toArray, List.set_cons_zero, List.set_cons_succ, i64_w, i32_w]
       rfl
      refine last_ (i := 12) (N := some 105) #[true, true, true, true, true, true, true, true, true, true, true, true, true, false] rfl rfl (one_of HT_.out (by kernel_rfl)) (by decide) (fun K hK => ?_)
      refine Kd.R_append_step k55 (w0 := w1) w1.heap.size (by rfl) (.tmp 93) (.tmp 104) 29 55 (.agg #[(.int .i64 0), (.int .i64 0)]) 16 rfl Try.underlying29 info55 rfl (by decide) (by omega) _ O ⟨X, Y⟩ [.int .i64 X, .int .i64 Y] (fun _ => True) (fun _ => False) rfl rfl (k55_mkM _ _ _ ⟨X, Y⟩) (fun _ hk => hk.elim) (fun _ _ => trivial) HO6.out HB6.out HB6.out.size (by omega) ?_
      intro v8 w8 ho hb hg hat
      have HO8 := Aside0.mk ho
      have HB8 := Aside0.mk hb
      clear ho hb hg hat hu0 hu1 hHeld
      refine hK.out _ _ ?_
      clear hK K
      refine norm_ (a' := ?_) ?_ ?_
      rotate_left
      ·show Act.put _ (some 105) _ = _
       simp only [Act.put, List.setIfInBounds_toArray, List.set_cons_zero, List.set_cons_succ, i64_w, i32_w]
       rfl
      refine pu_ 13 (some 8) HT_ ?_
      refine done_ (done_of HT_.out (by kernel_rfl)) ?_
      try go_wp2
      go_roundw
      case rel => exact ⟨kk + 1, O ++ [⟨X, Y⟩], by go_num, ⟨by omega⟩, ⟨by rw [List.length_append]; simp; omega⟩, HN1, HO8, HB8⟩
      case measure => simp [intOf]; omega
  ·have hd0 : decide (((kk + 1 : Nat) : Int) < (cuts.length : Int)) = false := decide_eq_false (by omega)
   have hd1 : decide (kk + 1 < cuts.length) = false := decide_eq_false hk
   have hfin : O = RES := by
    have := HGO.out
    rcases Nat.lt_or_ge kk cuts.length with h | h
    ·rw [dropI cuts kk h, List.drop_of_length_le (l := cuts) (i := kk + 1) (by omega)] at this
     exact this
    ·rw [List.drop_of_length_le h] at this
     exact this
   rw [hfin] at HO
   obtain ⟨A7, c7, e7⟩ := Kd.R_slice HO.out
   subst e7
   go_wp2
   go_ret
   exact ⟨_, rfl, Kd.R_lower HO.out HB1.out.size, HB1.out.trans (HB.out.mono HB1.out.size)⟩
theorem papermillref04_combine.calls (A0 : Option Addr) (c0 : Nat) (l0 : List (S55)) (A1 : Option Addr) (c1 : Nat) (l1 : List (S55)) (a2 : Int) (r : List (S55)) (w : World) (hr0 : Kd.C k55 w A0 l0.length l0) (hc0 : l0.length ≤ c0) (hr1 : Kd.C k55 w A1 l1.length l1) (hc1 : l1.length ≤ c1) (h : papermillref04_combine.f l0 l1 a2 = some r) :
  Calls Try.prog 79 #[.slice A0 l0.length c0, .slice A1 l1.length c1, .int .i64 a2] w fun e w' => ∃ v0_ : Value, e = .returned (v0_) ∧ Kd.R k55 55 w' w.heap.size (fun _ => True) v0_ r ∧ Below w.heap.size w w' := by
 unfold papermillref04_combine.f at h
 by_cases hh : l0.length ≤ 256 ∧ l1.length ≤ 256 ∧ (a2 = 0 ∨ a2 = 1 ∨ a2 = 2)
 ·rw [if_pos hh] at h
  obtain rfl := Option.some.inj h
  exact comb_main A0 c0 l0 A1 c1 l1 a2 w hr0 hc0 hr1 hc1 hh.1 hh.2.1 hh.2.2
 ·rw [if_neg hh] at h; cases h
end Go.Proofs.Ytalpegglbfobiaa.G

namespace Go.Proofs.Ytalpegglbfobiaa.G
open Go.RowKit Go.Proofs.YtalpegglbfobiaaW.PrintWords Go.Proofs.YtalpegglbfobiaaW.PrintLast Go.Proofs.YtalpegglbfobiaaW.PrintMore
attribute [local go_sem] max2_int min2_int max_two min_two max_three min_three max_four min_four   -- for this text's walks alone
set_option linter.unusedVariables false
set_option linter.unusedSimpArgs false

def papermillref04_both.f (k : Nat) (l0 : List (S55)) (l1 : List (S55)) (a2 : Int) : Option ((List (S55)) × Int) := (papermillref04_Check.f k l0).bind fun t72001 => (if t72001 = 0 then ((papermillref04_Check.f k l1).bind fun t72002 => (if t72002 = 0 then ((papermillref04_combine.f l0 l1 a2).bind fun t72003 => (if (t72003.length : Int) > 256 then (some (([] : List (S55)), 8)) else (some (t72003, 0)))) else (some (([] : List (S55)), t72002)))) else (some (([] : List (S55)), t72001)))
set_option maxHeartbeats 8000000 in
set_option maxRecDepth 100000 in
theorem papermillref04_both.calls (k : Nat) (A0 : Option Addr) (c0 : Nat) (l0 : List (S55)) (A1 : Option Addr) (c1 : Nat) (l1 : List (S55)) (a2 : Int) (r1 : List (S55)) (r2 : Int) (w : World) (hr0 : Kd.C k55 w A0 l0.length l0) (hc0 : l0.length ≤ c0) (hr1 : Kd.C k55 w A1 l1.length l1) (hc1 : l1.length ≤ c1) (h : papermillref04_both.f k l0 l1 a2 = some (r1, r2)) :
  Calls Try.prog 71 #[.slice A0 l0.length c0, .slice A1 l1.length c1, .int .i64 a2] w fun e w' => ∃ v0_ : Value, e = .returned (.tuple #[v0_, .int .i64 r2]) ∧ Kd.R k55 55 w' w.heap.size (fun _ => True) v0_ r1 ∧ Below w.heap.size w w' := by
 have HR0 := Aside0.mk hr0
 have HC0 := Aside0.mk hc0
 clear hr0 hc0
 have HR1 := Aside0.mk hr1
 have HC1 := Aside0.mk hc1
 clear hr1 hc1
 have HB := Aside0.mk (Below.refl w.heap.size w)
 have H : ((papermillref04_Check.f k l0).bind fun t72001 => (if t72001 = 0 then ((papermillref04_Check.f k l1).bind fun t72002 => (if t72002 = 0 then ((papermillref04_combine.f l0 l1 a2).bind fun t72003 => (if (t72003.length : Int) > 256 then (some (([] : List (S55)), 8)) else (some (t72003, 0)))) else (some (([] : List (S55)), t72002)))) else (some (([] : List (S55)), t72001)))) = some (r1, r2) := h
 clear h
 replace H := Option.bind_eq_some_iff.mp H
 obtain ⟨t72001, A40, H⟩ := H
 have A4 := Aside0.mk A40
 clear A40
 by_cases c5 : t72001 = 0
 ·rw [if_pos c5] at H
  have c5b0 : (t72001 == 0) = true := beq_iff_eq.mpr c5
  have c5b1 : (t72001 != 0) = false := bne_eq_false_iff_eq.mpr c5
  clear c5
  replace H := Option.bind_eq_some_iff.mp H
  obtain ⟨t72002, A60, H⟩ := H
  have A6 := Aside0.mk A60
  clear A60
  by_cases c7 : t72002 = 0
  ·rw [if_pos c7] at H
   have c7b0 : (t72002 == 0) = true := beq_iff_eq.mpr c7
   have c7b1 : (t72002 != 0) = false := bne_eq_false_iff_eq.mpr c7
   clear c7
   replace H := Option.bind_eq_some_iff.mp H
   obtain ⟨t72003, A80, H⟩ := H
   have A8 := Aside0.mk A80
   clear A80
   by_cases c9 : (t72003.length : Int) > 256
   ·rw [if_pos c9] at H
    have c9b0 : decide (256 < (t72003.length : Int)) = true := decide_eq_true c9
    have c9b1 : decide (256 < t72003.length) = true := decide_eq_true (by omega)
    clear c9
    simp only [Option.some.injEq, Prod.mk.injEq] at H
    obtain ⟨rfl, rfl⟩ := H
    go_enter Try.func71, Try.ntmps71
    go_wp2_with (first | ((with_reducible refine gate_callee (f := 78) rfl ?_); refine goesL_ (some 12) rfl rfl Try.func78 (by kernel_rfl) rfl #[.slice A0 l0.length c0] rfl (by (try simp only [List.map_toArray, List.map_cons, List.map_nil]); first | done | rfl | (simp only [List.length_drop, List.length_take]; rfl)) ?_; (with_reducible refine (papermillref04_Check.calls k _ _ l0 t72001 _ ?side1 ?side2 A4.out).mono ?_); (case side1 => exact HR0.out); (case side2 => exact HC0.out); rintro e w' ⟨rfl, ⟨nd, rfl⟩⟩; refine ⟨_, rfl, ?_⟩) | ((with_reducible refine gate_callee (f := 78) rfl ?_); refine goesL_ (some 17) rfl rfl Try.func78 (by kernel_rfl) rfl #[.slice A1 l1.length c1] rfl (by (try simp only [List.map_toArray, List.map_cons, List.map_nil]); first | done | rfl | (simp only [List.length_drop, List.length_take]; rfl)) ?_; (with_reducible refine (papermillref04_Check.calls k _ _ l1 t72002 _ ?side1 ?side2 A6.out).mono ?_); (case side1 => exact HR1.out); (case side2 => exact HC1.out); rintro e w' ⟨rfl, ⟨nd, rfl⟩⟩; refine ⟨_, rfl, ?_⟩) | ((with_reducible refine gate_callee (f := 79) rfl ?_); refine goesL_ (some 24) rfl rfl Try.func79 (by kernel_rfl) rfl #[.slice A0 l0.length c0, .slice A1 l1.length c1, .int .i64 a2] rfl (by (try simp only [List.map_toArray, List.map_cons, List.map_nil]); first | done | rfl | (simp only [List.length_drop, List.length_take]; rfl)) ?_; (with_reducible refine (papermillref04_combine.calls _ _ l0 _ _ l1 a2 t72003 _ ?side1 ?side2 ?side3 ?side4 A8.out).mono ?_); (case side1 => exact HR0.out); (case side2 => exact HC0.out); (case side3 => exact HR1.out); (case side4 => exact HC1.out); rintro e w10 ⟨v72004, rfl, ho0, hb⟩; refine ⟨_, rfl, ?_⟩; have HO72005 := Aside0.mk (Kd.R_lower ho0 (below_size (by repeat (first | exact HB.out | apply below_alloc | apply pw_below_drewN | apply below_drew1)))); replace HB := Aside0.mk (below_step (by repeat (first | exact HB.out | apply below_alloc | apply pw_below_drewN | apply below_drew1)) hb); (try clear hb); (try clear hb2); (try clear hk); (try clear hi); (try clear ho0); obtain ⟨Ao11, co11, eo11⟩ := Kd.R_slice HO72005.out; subst eo11))
    go_ret2
    exact ⟨_, by first | rfl | (simp [errW_none, errW_some] <;> rfl) | (simp [*, errW_none, errW_some] <;> rfl), by first | exact Kd.R_nil _ _ _ _ _ | exact Kd.N_nil _ _ _ _ _ | exact Kd.V_nil _ _ _ _ _ | exact Kd.Q_nil _ _ _ _ _ | exact Kd.S_nil _ _ _ _ _, by repeat (first | exact HB.out | apply below_alloc | apply pw_below_drewN | apply below_drew1)⟩
   ·rw [if_neg c9] at H
    have c9b0 : decide (256 < (t72003.length : Int)) = false := decide_eq_false c9
    have c9b1 : decide (256 < t72003.length) = false := decide_eq_false (by omega)
    clear c9
    simp only [Option.some.injEq, Prod.mk.injEq] at H
    obtain ⟨rfl, rfl⟩ := H
    go_enter Try.func71, Try.ntmps71
    go_wp2_with (first | ((with_reducible refine gate_callee (f := 78) rfl ?_); refine goesL_ (some 12) rfl rfl Try.func78 (by kernel_rfl) rfl #[.slice A0 l0.length c0] rfl (by (try simp only [List.map_toArray, List.map_cons, List.map_nil]); first | done | rfl | (simp only [List.length_drop, List.length_take]; rfl)) ?_; (with_reducible refine (papermillref04_Check.calls k _ _ l0 t72001 _ ?side1 ?side2 A4.out).mono ?_); (case side1 => exact HR0.out); (case side2 => exact HC0.out); rintro e w' ⟨rfl, ⟨nd, rfl⟩⟩; refine ⟨_, rfl, ?_⟩) | ((with_reducible refine gate_callee (f := 78) rfl ?_); refine goesL_ (some 17) rfl rfl Try.func78 (by kernel_rfl) rfl #[.slice A1 l1.length c1] rfl (by (try simp only [List.map_toArray, List.map_cons, List.map_nil]); first | done | rfl | (simp only [List.length_drop, List.length_take]; rfl)) ?_; (with_reducible refine (papermillref04_Check.calls k _ _ l1 t72002 _ ?side1 ?side2 A6.out).mono ?_); (case side1 => exact HR1.out); (case side2 => exact HC1.out); rintro e w' ⟨rfl, ⟨nd, rfl⟩⟩; refine ⟨_, rfl, ?_⟩) | ((with_reducible refine gate_callee (f := 79) rfl ?_); refine goesL_ (some 24) rfl rfl Try.func79 (by kernel_rfl) rfl #[.slice A0 l0.length c0, .slice A1 l1.length c1, .int .i64 a2] rfl (by (try simp only [List.map_toArray, List.map_cons, List.map_nil]); first | done | rfl | (simp only [List.length_drop, List.length_take]; rfl)) ?_; (with_reducible refine (papermillref04_combine.calls _ _ l0 _ _ l1 a2 t72003 _ ?side1 ?side2 ?side3 ?side4 A8.out).mono ?_); (case side1 => exact HR0.out); (case side2 => exact HC0.out); (case side3 => exact HR1.out); (case side4 => exact HC1.out); rintro e w12 ⟨v72004, rfl, ho0, hb⟩; refine ⟨_, rfl, ?_⟩; have HO72005 := Aside0.mk (Kd.R_lower ho0 (below_size (by repeat (first | exact HB.out | apply below_alloc | apply pw_below_drewN | apply below_drew1)))); replace HB := Aside0.mk (below_step (by repeat (first | exact HB.out | apply below_alloc | apply pw_below_drewN | apply below_drew1)) hb); (try clear hb); (try clear hb2); (try clear hk); (try clear hi); (try clear ho0); obtain ⟨Ao13, co13, eo13⟩ := Kd.R_slice HO72005.out; subst eo13))
    go_ret2
    exact ⟨_, by first | rfl | (simp [errW_none, errW_some] <;> rfl) | (simp [*, errW_none, errW_some] <;> rfl), by exact HO72005.out, by repeat (first | exact HB.out | apply below_alloc | apply pw_below_drewN | apply below_drew1)⟩
  ·rw [if_neg c7] at H
   have c7b0 : (t72002 == 0) = false := beq_eq_false_iff_ne.mpr c7
   have c7b1 : (t72002 != 0) = true := bne_iff_ne.mpr c7
   simp only [Option.some.injEq, Prod.mk.injEq] at H
   obtain ⟨rfl, rfl⟩ := H
   go_enter Try.func71, Try.ntmps71
   go_wp2_with (first | ((with_reducible refine gate_callee (f := 78) rfl ?_); refine goesL_ (some 12) rfl rfl Try.func78 (by kernel_rfl) rfl #[.slice A0 l0.length c0] rfl (by (try simp only [List.map_toArray, List.map_cons, List.map_nil]); first | done | rfl | (simp only [List.length_drop, List.length_take]; rfl)) ?_; (with_reducible refine (papermillref04_Check.calls k _ _ l0 t72001 _ ?side1 ?side2 A4.out).mono ?_); (case side1 => exact HR0.out); (case side2 => exact HC0.out); rintro e w' ⟨rfl, ⟨nd, rfl⟩⟩; refine ⟨_, rfl, ?_⟩) | ((with_reducible refine gate_callee (f := 78) rfl ?_); refine goesL_ (some 17) rfl rfl Try.func78 (by kernel_rfl) rfl #[.slice A1 l1.length c1] rfl (by (try simp only [List.map_toArray, List.map_cons, List.map_nil]); first | done | rfl | (simp only [List.length_drop, List.length_take]; rfl)) ?_; (with_reducible refine (papermillref04_Check.calls k _ _ l1 t72002 _ ?side1 ?side2 A6.out).mono ?_); (case side1 => exact HR1.out); (case side2 => exact HC1.out); rintro e w' ⟨rfl, ⟨nd, rfl⟩⟩; refine ⟨_, rfl, ?_⟩))
   go_ret2
   exact ⟨_, by first | rfl | (simp [errW_none, errW_some] <;> rfl) | (simp [*, errW_none, errW_some] <;> rfl), by first | exact Kd.R_nil _ _ _ _ _ | exact Kd.N_nil _ _ _ _ _ | exact Kd.V_nil _ _ _ _ _ | exact Kd.Q_nil _ _ _ _ _ | exact Kd.S_nil _ _ _ _ _, by repeat (first | exact HB.out | apply below_alloc | apply pw_below_drewN | apply below_drew1)⟩
 ·rw [if_neg c5] at H
  have c5b0 : (t72001 == 0) = false := beq_eq_false_iff_ne.mpr c5
  have c5b1 : (t72001 != 0) = true := bne_iff_ne.mpr c5
  simp only [Option.some.injEq, Prod.mk.injEq] at H
  obtain ⟨rfl, rfl⟩ := H
  go_enter Try.func71, Try.ntmps71
  go_wp2_with (first | ((with_reducible refine gate_callee (f := 78) rfl ?_); refine goesL_ (some 12) rfl rfl Try.func78 (by kernel_rfl) rfl #[.slice A0 l0.length c0] rfl (by (try simp only [List.map_toArray, List.map_cons, List.map_nil]); first | done | rfl | (simp only [List.length_drop, List.length_take]; rfl)) ?_; (with_reducible refine (papermillref04_Check.calls k _ _ l0 t72001 _ ?side1 ?side2 A4.out).mono ?_); (case side1 => exact HR0.out); (case side2 => exact HC0.out); rintro e w' ⟨rfl, ⟨nd, rfl⟩⟩; refine ⟨_, rfl, ?_⟩))
  go_ret2
  exact ⟨_, by first | rfl | (simp [errW_none, errW_some] <;> rfl) | (simp [*, errW_none, errW_some] <;> rfl), by first | exact Kd.R_nil _ _ _ _ _ | exact Kd.N_nil _ _ _ _ _ | exact Kd.V_nil _ _ _ _ _ | exact Kd.Q_nil _ _ _ _ _ | exact Kd.S_nil _ _ _ _ _, by repeat (first | exact HB.out | apply below_alloc | apply pw_below_drewN | apply below_drew1)⟩

end Go.Proofs.Ytalpegglbfobiaa.G

namespace Go.Proofs.Ytalpegglbfobiaa.G
open Go.RowKit Go.Proofs.YtalpegglbfobiaaW.PrintWords Go.Proofs.YtalpegglbfobiaaW.PrintLast Go.Proofs.YtalpegglbfobiaaW.PrintMore
attribute [local go_sem] max2_int min2_int max_two min_two max_three min_three max_four min_four   -- for this text's walks alone
set_option linter.unusedVariables false
set_option linter.unusedSimpArgs false

def papermillref04_Norm.f (k : Nat) (l0 : List (S55)) : Option ((List (S55)) × Int) := (papermillref04_both.f k l0 ([] : List (S55)) 0).bind fun bt59001 => (some (bt59001.1, bt59001.2))
set_option maxHeartbeats 8000000 in
set_option maxRecDepth 100000 in
theorem papermillref04_Norm.calls (k : Nat) (A0 : Option Addr) (c0 : Nat) (l0 : List (S55)) (r1 : List (S55)) (r2 : Int) (w : World) (hr0 : Kd.C k55 w A0 l0.length l0) (hc0 : l0.length ≤ c0) (h : papermillref04_Norm.f k l0 = some (r1, r2)) :
  Calls Try.prog 58 #[.slice A0 l0.length c0] w fun e w' => ∃ v0_ : Value, e = .returned (.tuple #[v0_, .int .i64 r2]) ∧ Kd.R k55 55 w' w.heap.size (fun _ => True) v0_ r1 ∧ Below w.heap.size w w' := by
 have HR0 := Aside0.mk hr0
 have HC0 := Aside0.mk hc0
 clear hr0 hc0
 have HB := Aside0.mk (Below.refl w.heap.size w)
 have H : ((papermillref04_both.f k l0 ([] : List (S55)) 0).bind fun bt59001 => (some (bt59001.1, bt59001.2))) = some (r1, r2) := h
 clear h
 replace H := Option.bind_eq_some_iff.mp H
 obtain ⟨⟨t59001, t59002⟩, A20, H⟩ := H
 try dsimp only at H
 have A2 := Aside0.mk A20
 clear A20
 simp only [Option.some.injEq, Prod.mk.injEq] at H
 obtain ⟨rfl, rfl⟩ := H
 go_enter Try.func58, Try.ntmps58
 go_wp2_with (first | ((with_reducible refine gate_callee (f := 71) rfl ?_); refine goesL_ (some 5) rfl rfl Try.func71 (by kernel_rfl) rfl #[.slice A0 l0.length c0, .slice none 0 0, .int .i64 0] rfl (by (try simp only [List.map_toArray, List.map_cons, List.map_nil]); first | done | rfl | (simp only [List.length_drop, List.length_take]; rfl)) ?_; (refine (papermillref04_both.calls k _ _ l0 _ _ ([] : List (S55)) 0 t59001 t59002 _ ?side1 ?side2 ?side3 ?side4 A2.out).mono ?_); (case side1 => exact HR0.out); (case side2 => exact HC0.out); (case side3 => exact Kd.C_nil _ _); (case side4 => exact Nat.le_refl _); rintro e w3 ⟨v59003, rfl, ho0, hb⟩; refine ⟨_, rfl, ?_⟩; have HO59004 := Aside0.mk (Kd.R_lower ho0 (below_size (by repeat (first | exact HB.out | apply below_alloc | apply pw_below_drewN | apply below_drew1)))); replace HB := Aside0.mk (below_step (by repeat (first | exact HB.out | apply below_alloc | apply pw_below_drewN | apply below_drew1)) hb); (try clear hb); (try clear hb2); (try clear hk); (try clear hi); (try clear ho0)))
 go_ret2
 exact ⟨_, by first | rfl | (simp [errW_none, errW_some] <;> rfl) | (simp [*, errW_none, errW_some] <;> rfl), by exact HO59004.out, by repeat (first | exact HB.out | apply below_alloc | apply pw_below_drewN | apply below_drew1)⟩

end Go.Proofs.Ytalpegglbfobiaa.G

namespace Go.Proofs.Ytalpegglbfobiaa.G
open Go.RowKit Go.Proofs.YtalpegglbfobiaaW.PrintWords Go.Proofs.YtalpegglbfobiaaW.PrintLast Go.Proofs.YtalpegglbfobiaaW.PrintMore
attribute [local go_sem] max2_int min2_int max_two min_two max_three min_three max_four min_four   -- for this text's walks alone
set_option linter.unusedVariables false
set_option linter.unusedSimpArgs false

mutual
def papermillref40_Keep.j0 : Nat → Int → List (S55) → Int → Bool → Option ((List (S55)) × Int)
 | 0, _, _, _, _ => none
 | k + 1, x0, x1, x2, x27 => if x27 = true then (some (([] : List (S55)), 1)) else ((papermillref04_Norm.f k x1).bind fun bt37001 => (if bt37001.2 = 0 then ((some (([] : List (S55)) : List (S55))).bind fun y37005 => (if y37005.length + bt37001.1.length < 8796093022208 then ((some (y37005 ++ bt37001.1 : List (S55))).bind fun y37008 => (if y37008.length < 8796093022208 then (papermillref40_Keep.l0 k x0 x2 (y37008 ++ [(⟨17179869184, 17179869184⟩ : S55)]) ([] : List (S55)) 0 0) else (none))) else (none))) else (some (([] : List (S55)), bt37001.2))))
def papermillref40_Keep.l0 : Nat → Int → Int → List (S55) → List (S55) → Int → Int → Option ((List (S55)) × Int)
 | 0, _, _, _, _, _, _ => none
 | k + 1, x0, x2, x8, x10, x11, x12 => if x12 < (x8.length : Int) then (if 0 ≤ x12 then (if (wrap64 ((mn ((rd_T55 x8 x12).f0) x0) - x11)) ≥ x2 then (if x10.length < 8796093022208 then (papermillref40_Keep.l0 k x0 x2 x8 (x10 ++ [(⟨x11, mn ((rd_T55 x8 x12).f0) x0⟩ : S55)]) ((rd_T55 x8 x12).f1) (wrap64 (x12 + 1))) else (none)) else (papermillref40_Keep.l0 k x0 x2 x8 x10 ((rd_T55 x8 x12).f1) (wrap64 (x12 + 1)))) else (none)) else (if (x10.length : Int) > 256 then (some (([] : List (S55)), 8)) else (some (x10, 0)))
end
def papermillref40_Keep.f (k : Nat) (a0 : Int) (l1 : List (S55)) (a2 : Int) : Option ((List (S55)) × Int) := if a0 < 0 then (papermillref40_Keep.j0 k a0 l1 a2 true) else (if a0 > 17179869184 then (papermillref40_Keep.j0 k a0 l1 a2 true) else (if a2 < 1 then (papermillref40_Keep.j0 k a0 l1 a2 true) else (papermillref40_Keep.j0 k a0 l1 a2 (decide (a2 > 17179869184)))))
set_option maxHeartbeats 8000000 in
set_option maxRecDepth 100000 in
theorem papermillref40_Keep.calls (k : Nat) (a0 : Int) (A1 : Option Addr) (c1 : Nat) (l1 : List (S55)) (a2 : Int) (r1 : List (S55)) (r2 : Int) (w : World) (hr1 : Kd.C k55 w A1 l1.length l1) (hc1 : l1.length ≤ c1) (h : papermillref40_Keep.f k a0 l1 a2 = some (r1, r2)) :
  Calls Try.prog 36 #[.int .i64 a0, .slice A1 l1.length c1, .int .i64 a2] w fun e w' => ∃ v0_ : Value, e = .returned (.tuple #[v0_, .int .i64 r2]) ∧ Kd.R k55 55 w' w.heap.size (fun _ => True) v0_ r1 ∧ Below w.heap.size w w' := by
 have hu55 := Try.underlying55
 have HR1 := Aside0.mk hr1
 have HC1 := Aside0.mk hc1
 clear hr1 hc1
 have HB := Aside0.mk (Below.refl w.heap.size w)
 have H : (if a0 < 0 then (papermillref40_Keep.j0 k a0 l1 a2 true) else (if a0 > 17179869184 then (papermillref40_Keep.j0 k a0 l1 a2 true) else (if a2 < 1 then (papermillref40_Keep.j0 k a0 l1 a2 true) else (papermillref40_Keep.j0 k a0 l1 a2 (decide (a2 > 17179869184)))))) = some (r1, r2) := h
 clear h
 have HC4 := Aside0.mk H
 clear H
 go_enter Try.func36, Try.ntmps36
 go_upto_region 1 with (fail)
 go_cut [27] (fun v27 wc => ∃ (kq : Nat) (x27_3 : Bool), v27 = .bool x27_3 ∧ Aside0 (papermillref40_Keep.j0 kq a0 l1 a2 x27_3 = some (r1, r2)) ∧ Aside0 (kq ≤ k) ∧ Aside0 (Below w.heap.size w wc))
 case first =>
  have H := HC4.out
  clear HC4
  by_cases c5 : a0 < 0
  ·rw [if_pos c5] at H
   have c5b0 : decide (a0 < 0) = true := decide_eq_true c5
   clear c5
   (first | rw [c5b0] | (simp only [i64_w, i32_w]; rw [c5b0]) | skip)
   have H' := Aside0.mk H
   clear H
   go_wp2
   go_meet
   case rel => exact ⟨_, (true), (by first | rfl | (simp; done) | (simp [*]; done)), H', ⟨by first | omega | exact Nat.le_refl _⟩, ⟨by repeat (first | exact HB.out | apply below_alloc | apply pw_below_drewN | apply below_drew1)⟩⟩
  ·rw [if_neg c5] at H
   have c5b0 : decide (a0 < 0) = false := decide_eq_false c5
   clear c5
   (first | rw [c5b0] | (simp only [i64_w, i32_w]; rw [c5b0]) | skip)
   by_cases c6 : a0 > 17179869184
   ·rw [if_pos c6] at H
    have c6b0 : decide (17179869184 < a0) = true := decide_eq_true c6
    clear c6
    have H' := Aside0.mk H
    clear H
    go_wp2
    go_meet
    case rel => exact ⟨_, (true), (by first | rfl | (simp; done) | (simp [*]; done)), H', ⟨by first | omega | exact Nat.le_refl _⟩, ⟨by repeat (first | exact HB.out | apply below_alloc | apply pw_below_drewN | apply below_drew1)⟩⟩
   ·rw [if_neg c6] at H
    have c6b0 : decide (17179869184 < a0) = false := decide_eq_false c6
    clear c6
    by_cases c7 : a2 < 1
    ·rw [if_pos c7] at H
     have c7b0 : decide (a2 < 1) = true := decide_eq_true c7
     clear c7
     have H' := Aside0.mk H
     clear H
     go_wp2
     go_meet
     case rel => exact ⟨_, (true), (by first | rfl | (simp; done) | (simp [*]; done)), H', ⟨by first | omega | exact Nat.le_refl _⟩, ⟨by repeat (first | exact HB.out | apply below_alloc | apply pw_below_drewN | apply below_drew1)⟩⟩
    ·rw [if_neg c7] at H
     have c7b0 : decide (a2 < 1) = false := decide_eq_false c7
     clear c7
     have H' := Aside0.mk H
     clear H
     go_wp2
     go_meet
     case rel => exact ⟨_, (decide (a2 > 17179869184)), (by first | rfl | (simp; done) | (simp [*]; done)), H', ⟨by first | omega | exact Nat.le_refl _⟩, ⟨by repeat (first | exact HB.out | apply below_alloc | apply pw_below_drewN | apply below_drew1)⟩⟩
 case rest =>
  clear HC4
  try clear c1
  try clear p2
  try clear c3
  try clear c5
  try clear c5b0
  try clear c6
  try clear c6b0
  try clear c7
  try clear c7b0
  obtain ⟨kq, x27_3, rfl, HA, HJ3, HB⟩ := hcut
  cases kq with
  | zero => exact absurd HA.out (by simp [papermillref40_Keep.j0])
  | succ kj3 =>
   have H := HA.out
   clear HA
   simp only [papermillref40_Keep.j0] at H
   by_cases c8 : x27_3 = true
   ·subst c8
    rw [if_pos rfl] at H
    simp only [Option.some.injEq, Prod.mk.injEq] at H
    obtain ⟨rfl, rfl⟩ := H
    go_wp2
    go_ret2
    exact ⟨_, by first | rfl | (simp [errW_none, errW_some] <;> rfl) | (simp [*, errW_none, errW_some] <;> rfl), by first | exact Kd.R_nil _ _ _ _ _ | exact Kd.N_nil _ _ _ _ _ | exact Kd.V_nil _ _ _ _ _ | exact Kd.Q_nil _ _ _ _ _ | exact Kd.S_nil _ _ _ _ _, by repeat (first | exact HB.out | apply below_alloc | apply pw_below_drewN | apply below_drew1)⟩
   ·replace c8 := Bool.eq_false_iff.mpr c8
    subst c8
    have H1 : ((papermillref04_Norm.f kj3 l1).bind fun bt37001 => (if bt37001.2 = 0 then ((some (([] : List (S55)) : List (S55))).bind fun y37005 => (if y37005.length + bt37001.1.length < 8796093022208 then ((some (y37005 ++ bt37001.1 : List (S55))).bind fun y37008 => (if y37008.length < 8796093022208 then (papermillref40_Keep.l0 kj3 a0 a2 (y37008 ++ [(⟨17179869184, 17179869184⟩ : S55)]) ([] : List (S55)) 0 0) else (none))) else (none))) else (some (([] : List (S55)), bt37001.2)))) = some (r1, r2) := by rw [if_neg (show ¬ (false = true) by decide)] at H; first | exact H | simpa using H
    clear H
    have H := H1
    clear H1
    replace H := Option.bind_eq_some_iff.mp H
    obtain ⟨⟨t37001, t37002⟩, A90, H⟩ := H
    try dsimp only at H
    have A9 := Aside0.mk A90
    clear A90
    by_cases c10 : t37002 = 0
    ·rw [if_pos c10] at H
     have c10b0 : (t37002 == 0) = true := beq_iff_eq.mpr c10
     have c10b1 : (t37002 != 0) = false := bne_eq_false_iff_eq.mpr c10
     clear c10
     obtain ⟨y37005, hy37005⟩ : ∃ y_ : List (S55), y_ = (([] : List (S55))) := ⟨_, rfl⟩
     replace H : (if y37005.length + t37001.length < 8796093022208 then ((some (y37005 ++ t37001 : List (S55))).bind fun y37008 => (if y37008.length < 8796093022208 then (papermillref40_Keep.l0 kj3 a0 a2 (y37008 ++ [(⟨17179869184, 17179869184⟩ : S55)]) ([] : List (S55)) 0 0) else (none))) else (none)) = some (r1, r2) := by first | (rw [hy37005]; with_reducible exact H) | (have H2_ := (Option.bind_some _ _).symm.trans H; rw [hy37005]; with_reducible exact H2_) | (have H2_ := (Option.bind_some _ _).symm.trans H; with_reducible exact H2_) | with_reducible exact H | (rw [hy37005]; exact H) | exact H
     have Ny37005 := Aside0.mk hy37005
     clear hy37005
     by_cases c11 : y37005.length + t37001.length < 8796093022208
     ·rw [if_pos c11] at H
      have LMc11 := Aside0.mk c11
      clear c11
      obtain ⟨y37008, hy37008⟩ : ∃ y_ : List (S55), y_ = (y37005 ++ t37001) := ⟨_, rfl⟩
      replace H : (if y37008.length < 8796093022208 then (papermillref40_Keep.l0 kj3 a0 a2 (y37008 ++ [(⟨17179869184, 17179869184⟩ : S55)]) ([] : List (S55)) 0 0) else (none)) = some (r1, r2) := by first | (rw [hy37008]; with_reducible exact H) | (have H2_ := (Option.bind_some _ _).symm.trans H; rw [hy37008]; with_reducible exact H2_) | (have H2_ := (Option.bind_some _ _).symm.trans H; with_reducible exact H2_) | with_reducible exact H | (rw [hy37008]; exact H) | exact H
      have Ny37008 := Aside0.mk hy37008
      clear hy37008
      by_cases c12 : y37008.length < 8796093022208
      ·rw [if_pos c12] at H
       have LMc12 := Aside0.mk c12
       clear c12
       obtain ⟨y37011, hy37011⟩ : ∃ y_ : List (S55), y_ = (y37008 ++ [(⟨17179869184, 17179869184⟩ : S55)]) := ⟨_, rfl⟩
       replace H : (papermillref40_Keep.l0 kj3 a0 a2 y37011 ([] : List (S55)) 0 0) = some (r1, r2) := by first | (rw [hy37011]; with_reducible exact H) | (have H2_ := (Option.bind_some _ _).symm.trans H; rw [hy37011]; with_reducible exact H2_) | (have H2_ := (Option.bind_some _ _).symm.trans H; with_reducible exact H2_) | with_reducible exact H | (rw [hy37011]; exact H) | exact H
       have Ny37011 := Aside0.mk hy37011
       clear hy37011
       have H' := Aside0.mk H
       clear H
       go_wp2_with (first | ((with_reducible refine gate_callee (f := 58) rfl ?_); refine goesL_ (some 30) rfl rfl Try.func58 (by kernel_rfl) rfl #[.slice A1 l1.length c1] rfl (by (try simp only [List.map_toArray, List.map_cons, List.map_nil]); first | done | rfl | (simp only [List.length_drop, List.length_take]; rfl)) ?_; (with_reducible refine (papermillref04_Norm.calls kj3 _ _ l1 t37001 t37002 _ ?side1 ?side2 A9.out).mono ?_); (case side1 => repeat (first | exact (Kd.C_below HR1.out HB.out) | (with_reducible refine Kd.C_alloc ?_ _) | (with_reducible refine Kd.C_drewN ?_ _) | (with_reducible refine Kd.C_drew ?_))); (case side2 => exact HC1.out); rintro e w13 ⟨v37003, rfl, ho0, hb⟩; refine ⟨_, rfl, ?_⟩; have HO37004 := Aside0.mk (Kd.R_lower ho0 (below_size (by repeat (first | exact HB.out | apply below_alloc | apply pw_below_drewN | apply below_drew1)))); replace HB := Aside0.mk (below_step (by repeat (first | exact HB.out | apply below_alloc | apply pw_below_drewN | apply below_drew1)) hb); (try clear hb); (try clear hb2); (try clear hk); (try clear hi); (try clear ho0)) | ((with_reducible refine gate_dst (N := 36) rfl ?_); refine Kd.R_lit k55 _ 55 ?hg (N := 36) ?hd (xs := ([] : List (S55))) (inner := []) (ok := fun _ => True) (okp := fun _ => True) ?hr ?hp (fun _ hk => hk) trivial (Below.refl _ _) (Nat.le_refl _) (by simp) ?_; (case hd => rfl); (case hg => rfl); (case hr => first | (go_simp; done) | (go_simp; rfl)); (case hp => exact (Reps.none _ _)); intro v37006 w14 ho15 hb hg_ hnew_; clear hg_ hnew_; (first | rw [← Ny37005.out] at ho15 | (simp only [Int.reduceToNat] at ho15; rw [← Ny37005.out] at ho15)); have HO37007 := Aside0.mk (Kd.R_lower (Kd.R_new' ho15 (Kd.R_lt (by (with_reducible repeat (first | apply Kd.R_alloc | apply Kd.R_drewN | apply Kd.R_drew)); exact HO37004.out))) (below_size (by repeat (first | exact HB.out | apply below_alloc | apply pw_below_drewN | apply below_drew1)))); replace HO37004 := Aside0.mk (Kd.R_elder' (by (with_reducible repeat (first | apply Kd.R_alloc | apply Kd.R_drewN | apply Kd.R_drew)); exact HO37004.out) (Kd.R_base ho15) hb); replace HB := Aside0.mk (below_step (by repeat (first | exact HB.out | apply below_alloc | apply pw_below_drewN | apply below_drew1)) hb); clear hb ho15; obtain ⟨Ao17, co17, eo17⟩ := Kd.R_slice HO37004.out; subst eo17) | ((with_reducible refine gate_builtin (b := .append) (xs := #[.tmp 36, .tmp 37]) rfl ?_); at_builtin; refine Kd.R_append_rows k55 (w0 := w) w.heap.size rfl (.tmp 36) (.tmp 37) 29 55 (.agg #[(.int .i64 0), (.int .i64 0)]) 16 rfl Try.underlying29 info55 rfl (by decide) (by omega) v37006 y37005 t37001 _ _ _ (fun k_ => some k_ ≠ (.slice Ao17 t37001.length co17 : Value).ownBlock) (fun _ => False) rfl rfl ?aO ?aR (fun _ _ h => h) (fun _ h => h.elim) ?aF ?aB ?aS ?aL ?_; (case aR => repeat (first | exact (Kd.R_reads' HO37004.out).2.2 | (with_reducible refine Kd.C_alloc ?_ _) | (with_reducible refine Kd.C_drewN ?_ _) | (with_reducible refine Kd.C_drew ?_))); (case aB => exact (by repeat (first | exact HB.out | apply below_alloc | apply pw_below_drewN | apply below_drew1))); (case aF => exact (fun k_ hk => Kd.fresh' (Kd.R_lt (by (with_reducible repeat (first | apply Kd.R_alloc | apply Kd.R_drewN | apply Kd.R_drew)); exact HO37004.out)) k_ hk)); (case aO => exact (by (with_reducible repeat (first | apply Kd.R_alloc | apply Kd.R_drewN | apply Kd.R_drew)); exact Kd.R_mono HO37007.out (fun _ hk => hk.2))); (case aS => exact (below_size (by repeat (first | exact HB.out | apply below_alloc | apply pw_below_drewN | apply below_drew1)))); (case aL => have := LMc11.out; omega); intro v37009 w16 ho hb hg hat; rw [← Ny37008.out] at ho; replace HO37004 := Aside0.mk (Kd.R_after (ok := (fun _ => True)) (by (with_reducible repeat (first | apply Kd.R_alloc | apply Kd.R_drewN | apply Kd.R_drew)); exact HO37004.out) hg hat); replace HB := Aside0.mk (hb); have HO37010 := Aside0.mk (ho); clear HO37007; clear ho hb hg hat) | ((with_reducible refine gate_builtin (b := .append) (xs := #[.tmp 38, .tmp 40]) rfl ?_); at_builtin; refine Kd.R_append k55 (w0 := w) w.heap.size rfl (.tmp 38) (.tmp 40) 29 55 (.agg #[(.int .i64 0), (.int .i64 0)]) 16 rfl Try.underlying29 info55 rfl (by decide) (by omega) v37009 y37008 (⟨17179869184, 17179869184⟩ : S55) [.int .i64 17179869184, .int .i64 17179869184] (fun k_ => some k_ ≠ (.slice Ao17 t37001.length co17 : Value).ownBlock) (fun _ => False) rfl rfl ?aP (fun _ hk => hk.elim) ?aF ?aO ?aB ?aS ?aL ?_; (case aP => exact k55_mkM _ _ _ (⟨17179869184, 17179869184⟩ : S55)); (case aB => exact (by repeat (first | exact HB.out | apply below_alloc | apply pw_below_drewN | apply below_drew1))); (case aF => exact (fun k_ hk => Kd.fresh' (Kd.R_lt (by (with_reducible repeat (first | apply Kd.R_alloc | apply Kd.R_drewN | apply Kd.R_drew)); exact HO37004.out)) k_ hk)); (case aO => exact (by (with_reducible repeat (first | apply Kd.R_alloc | apply Kd.R_drewN | apply Kd.R_drew)); exact HO37010.out)); (case aS => exact (below_size (by repeat (first | exact HB.out | apply below_alloc | apply pw_below_drewN | apply below_drew1)))); (case aL => have := LMc12.out; omega); intro v37012 w18 ho hb hg hat; rw [← Ny37011.out] at ho; replace HO37004 := Aside0.mk (Kd.R_after (ok := (fun _ => True)) (by (with_reducible repeat (first | apply Kd.R_alloc | apply Kd.R_drewN | apply Kd.R_drew)); exact HO37004.out) hg hat); replace HB := Aside0.mk (hb); have HO37013 := Aside0.mk (ho); clear HO37010; clear ho hb hg hat))
       go_loopg [10, 11, 12] kj3 (fun kq v10 v11 v12 w' => ∃ (x10_2 : List (S55)) (x11_2 : Int) (x12_2 : Int), v11 = .int .i64 x11_2 ∧ v12 = .int .i64 x12_2 ∧ Aside0 (papermillref40_Keep.l0 kq a0 a2 y37011 x10_2 x11_2 x12_2 = some (r1, r2)) ∧ Aside0 (kq ≤ kj3) ∧ Aside0 (Kd.R k55 55 w' w.heap.size (fun k_ => some k_ ≠ (v10 : Value).ownBlock) v37012 y37011) ∧ Aside0 (Kd.R k55 55 w' w.heap.size (fun k_ => some k_ ≠ (v37012 : Value).ownBlock) v10 x10_2) ∧ Aside0 (Below w.heap.size w w'))
       case atStart => exact ⟨(([] : List (S55))), (0), (0), (by first | rfl | (simp; done) | (simp [*]; done)), (by first | rfl | (simp; done) | (simp [*]; done)), H', ⟨Nat.le_refl _⟩, ⟨by (with_reducible repeat (first | apply Kd.R_alloc | apply Kd.R_drewN | apply Kd.R_drew)); exact Kd.R_mono HO37013.out (fun _ hk => (by simp [Value.ownBlock]))⟩, ⟨by first | exact Kd.R_nil _ _ _ _ _ | exact Kd.N_nil _ _ _ _ _ | exact Kd.V_nil _ _ _ _ _ | exact Kd.Q_nil _ _ _ _ _ | exact Kd.S_nil _ _ _ _ _⟩, ⟨by repeat (first | exact HB.out | apply below_alloc | apply pw_below_drewN | apply below_drew1)⟩⟩
       case round =>
        clear H'
        try clear c1
        try clear p2
        try clear c3
        try clear c5
        try clear c5b0
        try clear c6
        try clear c6b0
        try clear c7
        try clear c7b0
        try clear c8
        try clear c10
        try clear c10b0
        try clear c10b1
        try clear c11
        try clear c12
        try clear p2
        obtain ⟨x10_2, x11_2, x12_2, rfl, rfl, HA, HK2, HO_8, HO_10, HB⟩ := hrel
        cases gk with
        | zero => exact absurd HA.out (by simp [papermillref40_Keep.l0])
        | succ k2 =>
         have H := HA.out
         clear HA
         simp only [papermillref40_Keep.l0] at H
         by_cases c19 : x12_2 < (y37011.length : Int)
         ·rw [if_pos c19] at H
          have c19b0 : decide (x12_2 < (y37011.length : Int)) = true := decide_eq_true c19
          clear c19
          by_cases c20 : 0 ≤ x12_2
          ·rw [if_pos c20] at H
           have c20b0 : decide (0 ≤ x12_2) = true := decide_eq_true c20
           clear c20
           obtain ⟨ji21, hji21⟩ : ∃ j_ : Int, (mn ((rd_T55 y37011 x12_2).f0) a0) = j_ := ⟨_, rfl⟩
           replace H : (if (wrap64 ((ji21) - x11_2)) ≥ a2 then (if x10_2.length < 8796093022208 then (papermillref40_Keep.l0 k2 a0 a2 y37011 (x10_2 ++ [(⟨x11_2, ji21⟩ : S55)]) ((rd_T55 y37011 x12_2).f1) (wrap64 (x12_2 + 1))) else (none)) else (papermillref40_Keep.l0 k2 a0 a2 y37011 x10_2 ((rd_T55 y37011 x12_2).f1) (wrap64 (x12_2 + 1)))) = some (r1, r2) := by first | (rw [hji21] at H; exact H) | (simp only [hji21] at H ⊢; exact H)
           have hji21_ : (if a0 < ((rd_T55 y37011 x12_2).f0) then a0 else ((rd_T55 y37011 x12_2).f0)) = ji21 := hji21
           by_cases c22 : (wrap64 ((ji21) - x11_2)) ≥ a2
           ·rw [if_pos c22] at H
            have c22b0 : decide (a2 ≤ (wrap64 ((ji21) - x11_2))) = true := decide_eq_true c22
            clear c22
            by_cases c23 : x10_2.length < 8796093022208
            ·rw [if_pos c23] at H
             have LMc23 := Aside0.mk c23
             clear c23
             obtain ⟨y37015, hy37015⟩ : ∃ y_ : List (S55), y_ = (x10_2 ++ [(⟨x11_2, ji21⟩ : S55)]) := ⟨_, rfl⟩
             replace H : (papermillref40_Keep.l0 k2 a0 a2 y37011 y37015 ((rd_T55 y37011 x12_2).f1) (wrap64 (x12_2 + 1))) = some (r1, r2) := by first | (rw [hy37015]; with_reducible exact H) | (have H2_ := (Option.bind_some _ _).symm.trans H; rw [hy37015]; with_reducible exact H2_) | (have H2_ := (Option.bind_some _ _).symm.trans H; with_reducible exact H2_) | with_reducible exact H | (rw [hy37015]; exact H) | exact H
             have Ny37015 := Aside0.mk hy37015
             clear hy37015
             have H' := Aside0.mk H
             clear H
             obtain ⟨Ao24, co24, eo24⟩ := Kd.R_slice HO_8.out
             subst eo24
             have p37014 : 0 ≤ (x12_2 : Int) := of_decide_eq_true (by assumption)
             have q37014 : x12_2 < (y37011.length : Int) := of_decide_eq_true (by assumption)
             obtain ⟨ad37014, e37014, hx37014_0, hx37014_1⟩ := at_T55 (Kd.R_reads' HO_8.out).2.2 x12_2 p37014 q37014
             cases e37014
             replace p37014 := eq_true p37014
             replace q37014 := eq_true q37014
             go_wp2_with (first | ((with_reducible refine gate_builtin (b := .append) (xs := #[.tmp 60, .tmp 64]) rfl ?_); at_builtin; refine Kd.R_append k55 (w0 := w) w.heap.size rfl (.tmp 60) (.tmp 64) 29 55 (.agg #[(.int .i64 0), (.int .i64 0)]) 16 rfl Try.underlying29 info55 rfl (by decide) (by omega) u10 x10_2 (⟨x11_2, ji21⟩ : S55) [.int .i64 x11_2, .int .i64 ji21] (fun k_ => some k_ ≠ (.slice (some ad37014) y37011.length co24 : Value).ownBlock) (fun _ => False) rfl rfl ?aP (fun _ hk => hk.elim) ?aF ?aO ?aB ?aS ?aL ?_; (case aP => exact k55_mkM _ _ _ (⟨x11_2, ji21⟩ : S55)); (case aB => exact (by repeat (first | exact HB.out | apply below_alloc | apply pw_below_drewN | apply below_drew1))); (case aF => exact (fun k_ hk => Kd.fresh' (Kd.R_lt (by (with_reducible repeat (first | apply Kd.R_alloc | apply Kd.R_drewN | apply Kd.R_drew)); exact HO_8.out)) k_ hk)); (case aO => exact (by (with_reducible repeat (first | apply Kd.R_alloc | apply Kd.R_drewN | apply Kd.R_drew)); exact HO_10.out)); (case aS => exact (below_size (by repeat (first | exact HB.out | apply below_alloc | apply pw_below_drewN | apply below_drew1)))); (case aL => have := LMc23.out; omega); intro v37016 w25 ho hb hg hat; rw [← Ny37015.out] at ho; replace HO_8 := Aside0.mk (Kd.R_after (ok := (fun _ => True)) (by (with_reducible repeat (first | apply Kd.R_alloc | apply Kd.R_drewN | apply Kd.R_drew)); exact Kd.R_mono HO_8.out (fun _ hk => ⟨trivial, hk⟩)) hg hat); replace HB := Aside0.mk (hb); have HO37017 := Aside0.mk (ho); clear HO_10; clear ho hb hg hat; have p37018 : 0 ≤ (x12_2 : Int) := of_decide_eq_true (by assumption); have q37018 : x12_2 < (y37011.length : Int) := of_decide_eq_true (by assumption); obtain ⟨ad37018, e37018, hx37018_0, hx37018_1⟩ := at_T55 (Kd.R_reads' HO_8.out).2.2 x12_2 p37018 q37018; obtain rfl : ad37014 = ad37018 := (by injection e37018); replace p37018 := eq_true p37018; replace q37018 := eq_true q37018))
             go_roundg k2
             case measure => have := HJ3.out; have := HK2.out; omega
             case rel => exact ⟨(y37015), ((rd_T55 y37011 x12_2).f1), (wrap64 (x12_2 + 1)), (by first | rfl | (simp; done) | (simp [*]; done)), (by first | rfl | (simp; done) | (simp [*]; done)), H', ⟨by have := HJ3.out; have := HK2.out; omega⟩, ⟨by (with_reducible repeat (first | apply Kd.R_alloc | apply Kd.R_drewN | apply Kd.R_drew)); exact Kd.R_mono HO_8.out (fun _ hk => hk.2)⟩, ⟨by (with_reducible repeat (first | apply Kd.R_alloc | apply Kd.R_drewN | apply Kd.R_drew)); exact HO37017.out⟩, ⟨by repeat (first | exact HB.out | apply below_alloc | apply pw_below_drewN | apply below_drew1)⟩⟩
            ·rw [if_neg c23] at H
             exact absurd H (by simp)
           ·rw [if_neg c22] at H
            have c22b0 : decide (a2 ≤ (wrap64 ((ji21) - x11_2))) = false := decide_eq_false c22
            clear c22
            have H' := Aside0.mk H
            clear H
            obtain ⟨Ao26, co26, eo26⟩ := Kd.R_slice HO_8.out
            subst eo26
            have p37014 : 0 ≤ (x12_2 : Int) := of_decide_eq_true (by assumption)
            have q37014 : x12_2 < (y37011.length : Int) := of_decide_eq_true (by assumption)
            obtain ⟨ad37014, e37014, hx37014_0, hx37014_1⟩ := at_T55 (Kd.R_reads' HO_8.out).2.2 x12_2 p37014 q37014
            cases e37014
            replace p37014 := eq_true p37014
            replace q37014 := eq_true q37014
            have p37019 : 0 ≤ (x12_2 : Int) := of_decide_eq_true (by assumption)
            have q37019 : x12_2 < (y37011.length : Int) := of_decide_eq_true (by assumption)
            obtain ⟨ad37019, e37019, hx37019_0, hx37019_1⟩ := at_T55 (Kd.R_reads' HO_8.out).2.2 x12_2 p37019 q37019
            obtain rfl : ad37014 = ad37019 := (by injection e37019)
            replace p37019 := eq_true p37019
            replace q37019 := eq_true q37019
            go_wp2
            go_roundg k2
            case measure => have := HJ3.out; have := HK2.out; omega
            case rel => exact ⟨(x10_2), ((rd_T55 y37011 x12_2).f1), (wrap64 (x12_2 + 1)), (by first | rfl | (simp; done) | (simp [*]; done)), (by first | rfl | (simp; done) | (simp [*]; done)), H', ⟨by have := HJ3.out; have := HK2.out; omega⟩, ⟨by (with_reducible repeat (first | apply Kd.R_alloc | apply Kd.R_drewN | apply Kd.R_drew)); exact HO_8.out⟩, ⟨by (with_reducible repeat (first | apply Kd.R_alloc | apply Kd.R_drewN | apply Kd.R_drew)); exact HO_10.out⟩, ⟨by repeat (first | exact HB.out | apply below_alloc | apply pw_below_drewN | apply below_drew1)⟩⟩
          ·rw [if_neg c20] at H
           exact absurd H (by simp)
         ·rw [if_neg c19] at H
          have c19b0 : decide (x12_2 < (y37011.length : Int)) = false := decide_eq_false c19
          clear c19
          by_cases c27 : (x10_2.length : Int) > 256
          ·rw [if_pos c27] at H
           have c27b0 : decide (256 < (x10_2.length : Int)) = true := decide_eq_true c27
           have c27b1 : decide (256 < x10_2.length) = true := decide_eq_true (by omega)
           clear c27
           simp only [Option.some.injEq, Prod.mk.injEq] at H
           obtain ⟨rfl, rfl⟩ := H
           obtain ⟨Ao28, co28, eo28⟩ := Kd.R_slice HO_8.out
           subst eo28
           obtain ⟨Ao29, co29, eo29⟩ := Kd.R_slice HO_10.out
           subst eo29
           go_wp2
           go_ret2
           exact ⟨_, by first | rfl | (simp [errW_none, errW_some] <;> rfl) | (simp [*, errW_none, errW_some] <;> rfl), by first | exact Kd.R_nil _ _ _ _ _ | exact Kd.N_nil _ _ _ _ _ | exact Kd.V_nil _ _ _ _ _ | exact Kd.Q_nil _ _ _ _ _ | exact Kd.S_nil _ _ _ _ _, by repeat (first | exact HB.out | apply below_alloc | apply pw_below_drewN | apply below_drew1)⟩
          ·rw [if_neg c27] at H
           have c27b0 : decide (256 < (x10_2.length : Int)) = false := decide_eq_false c27
           have c27b1 : decide (256 < x10_2.length) = false := decide_eq_false (by omega)
           clear c27
           simp only [Option.some.injEq, Prod.mk.injEq] at H
           obtain ⟨rfl, rfl⟩ := H
           obtain ⟨Ao30, co30, eo30⟩ := Kd.R_slice HO_8.out
           subst eo30
           obtain ⟨Ao31, co31, eo31⟩ := Kd.R_slice HO_10.out
           subst eo31
           go_wp2
           go_ret2
           exact ⟨_, by first | rfl | (simp [errW_none, errW_some] <;> rfl) | (simp [*, errW_none, errW_some] <;> rfl), by (with_reducible repeat (first | apply Kd.R_alloc | apply Kd.R_drewN | apply Kd.R_drew)); exact Kd.R_mono HO_10.out (fun _ hk => trivial), by repeat (first | exact HB.out | apply below_alloc | apply pw_below_drewN | apply below_drew1)⟩
      ·rw [if_neg c12] at H
       exact absurd H (by simp)
     ·rw [if_neg c11] at H
      exact absurd H (by simp)
    ·rw [if_neg c10] at H
     have c10b0 : (t37002 == 0) = false := beq_eq_false_iff_ne.mpr c10
     have c10b1 : (t37002 != 0) = true := bne_iff_ne.mpr c10
     simp only [Option.some.injEq, Prod.mk.injEq] at H
     obtain ⟨rfl, rfl⟩ := H
     go_wp2_with (first | ((with_reducible refine gate_callee (f := 58) rfl ?_); refine goesL_ (some 30) rfl rfl Try.func58 (by kernel_rfl) rfl #[.slice A1 l1.length c1] rfl (by (try simp only [List.map_toArray, List.map_cons, List.map_nil]); first | done | rfl | (simp only [List.length_drop, List.length_take]; rfl)) ?_; (with_reducible refine (papermillref04_Norm.calls kj3 _ _ l1 t37001 t37002 _ ?side1 ?side2 A9.out).mono ?_); (case side1 => repeat (first | exact (Kd.C_below HR1.out HB.out) | (with_reducible refine Kd.C_alloc ?_ _) | (with_reducible refine Kd.C_drewN ?_ _) | (with_reducible refine Kd.C_drew ?_))); (case side2 => exact HC1.out); rintro e w32 ⟨v37003, rfl, ho0, hb⟩; refine ⟨_, rfl, ?_⟩; have HO37004 := Aside0.mk (Kd.R_lower ho0 (below_size (by repeat (first | exact HB.out | apply below_alloc | apply pw_below_drewN | apply below_drew1)))); replace HB := Aside0.mk (below_step (by repeat (first | exact HB.out | apply below_alloc | apply pw_below_drewN | apply below_drew1)) hb); (try clear hb); (try clear hb2); (try clear hk); (try clear hi); (try clear ho0)))
     go_ret2
     exact ⟨_, by first | rfl | (simp [errW_none, errW_some] <;> rfl) | (simp [*, errW_none, errW_some] <;> rfl), by first | exact Kd.R_nil _ _ _ _ _ | exact Kd.N_nil _ _ _ _ _ | exact Kd.V_nil _ _ _ _ _ | exact Kd.Q_nil _ _ _ _ _ | exact Kd.S_nil _ _ _ _ _, by repeat (first | exact HB.out | apply below_alloc | apply pw_below_drewN | apply below_drew1)⟩

end Go.Proofs.Ytalpegglbfobiaa.G

namespace Go.Proofs.Ytalpegglbfobiaa.G
open Go.RowKit Go.Proofs.YtalpegglbfobiaaW.PrintWords Go.Proofs.YtalpegglbfobiaaW.PrintLast Go.Proofs.YtalpegglbfobiaaW.PrintMore
attribute [local go_sem] max2_int min2_int max_two min_two max_three min_three max_four min_four   -- for this text's walks alone
set_option linter.unusedVariables false
set_option linter.unusedSimpArgs false

def papermillref13_good.j0 : Nat → Bool → Int → Int → Bool → Option (Bool)
 | 0, _, _, _, _ => none
 | k + 1, x20, x46002000, x46002001, x46002002 => if x20 = true then (some false) else (if x46002002 = true then (some (decide ((wrap64 ((wrap64 (x46002000 - x46002001)) + 1)) ≥ 0))) else (some (decide ((wrap64 (x46002000 + x46002001)) ≤ 17179869184))))
def papermillref13_good.f (k : Nat) (a0_0 : Int) (a0_1 : Int) (a0_2 : Bool) : Option (Bool) := if a0_1 < 1 then (papermillref13_good.j0 k true a0_0 a0_1 a0_2) else (if a0_1 > 17179869184 then (papermillref13_good.j0 k true a0_0 a0_1 a0_2) else (if a0_0 < 0 then (papermillref13_good.j0 k true a0_0 a0_1 a0_2) else (papermillref13_good.j0 k (decide (a0_0 ≥ 17179869184)) a0_0 a0_1 a0_2)))
set_option maxHeartbeats 8000000 in
set_option maxRecDepth 100000 in
theorem papermillref13_good.calls (k : Nat) (a0_0 : Int) (a0_1 : Int) (a0_2 : Bool) (r : Bool) (w : World) (h : papermillref13_good.f k a0_0 a0_1 a0_2 = some r) :
  Calls Try.prog 45 #[.agg #[.int .i64 a0_0, .int .i64 a0_1, .bool a0_2]] w fun e w' => e = .returned (.bool r) ∧ Below w.heap.size w w' := by
 have hu44 := Try.underlying44
 have HB := Aside0.mk (Below.refl w.heap.size w)
 have H : (if a0_1 < 1 then (papermillref13_good.j0 k true a0_0 a0_1 a0_2) else (if a0_1 > 17179869184 then (papermillref13_good.j0 k true a0_0 a0_1 a0_2) else (if a0_0 < 0 then (papermillref13_good.j0 k true a0_0 a0_1 a0_2) else (papermillref13_good.j0 k (decide (a0_0 ≥ 17179869184)) a0_0 a0_1 a0_2)))) = some r := h
 clear h
 have HC2 := Aside0.mk H
 clear H
 go_enter Try.func45, Try.ntmps45
 go_upto_region 1 with (first | ((with_reducible refine gate_dst (N := 1) rfl ?_); refine box_event ?hg (N := 1) ?hd (cs := #[.int .i64 a0_0, .int .i64 a0_1, .bool a0_2]) (t := 44) ?hr ?_; (case hd => rfl); (case hg => rfl); (case hr => first | (go_simp; done) | (go_simp; rfl)); intro gb46001 hg w3 hbox hb; have BK46001 := Aside0.mk (hbox); have GW46001 := Aside0.mk ((by rw [hg]; exact (below_size (by repeat (first | exact HB.out | apply below_alloc | apply pw_below_drewN | apply below_drew1))) : w.heap.size ≤ gb46001)); have GE46001 := Aside0.mk ((by rw [hg]; exact (below_size (by repeat (first | exact HB.out | apply below_alloc | apply pw_below_drewN | apply below_drew1))) : w.heap.size ≤ gb46001)); replace HB := Aside0.mk (below_step (by repeat (first | exact HB.out | apply below_alloc | apply pw_below_drewN | apply below_drew1)) hb); clear hb hbox hg))
 (try simp only [Act.put, List.setIfInBounds_toArray, List.set_cons_zero, List.set_cons_succ])
 go_cut [20] (fun v20 wc => ∃ (kq : Nat) (x20_1 : Bool), v20 = .bool x20_1 ∧ Aside0 (papermillref13_good.j0 kq x20_1 a0_0 a0_1 a0_2 = some r) ∧ Aside0 (kq ≤ k) ∧ Aside0 (wc.heap[gb46001]? = some (.cells #[.int .i64 a0_0, .int .i64 a0_1, .bool a0_2] 44 (0, 0))) ∧ Aside0 (Below w.heap.size w wc))
 case first =>
  have H := HC2.out
  clear HC2
  by_cases c4 : a0_1 < 1
  ·rw [if_pos c4] at H
   have c4b0 : decide (a0_1 < 1) = true := decide_eq_true c4
   clear c4
   (first | rw [c4b0] | (simp only [i64_w, i32_w]; rw [c4b0]) | skip)
   have H' := Aside0.mk H
   clear H
   have hcz5_0 : w3.cell? ⟨gb46001, 0, none⟩ = some (.int .i64 a0_0) := (blk_cell BK46001.out 0).trans rfl
   have hcz5_1 : w3.cell? ⟨gb46001, 1, none⟩ = some (.int .i64 a0_1) := (blk_cell BK46001.out 1).trans rfl
   have hcz5_2 : w3.cell? ⟨gb46001, 2, none⟩ = some (.bool a0_2) := (blk_cell BK46001.out 2).trans rfl
   have hfz5_0 := blk_frozen BK46001.out 0
   have hfz5_1 := blk_frozen BK46001.out 1
   have hfz5_2 := blk_frozen BK46001.out 2
   go_wp2
   go_meet
   case rel => exact ⟨_, (true), (by first | rfl | (simp; done) | (simp [*]; done)), H', ⟨by first | omega | exact Nat.le_refl _⟩, ⟨BK46001.out⟩, ⟨by repeat (first | exact HB.out | apply below_alloc | apply pw_below_drewN | apply below_drew1 | refine below_set ?_ GE46001.out)⟩⟩
  ·rw [if_neg c4] at H
   have c4b0 : decide (a0_1 < 1) = false := decide_eq_false c4
   clear c4
   (first | rw [c4b0] | (simp only [i64_w, i32_w]; rw [c4b0]) | skip)
   by_cases c6 : a0_1 > 17179869184
   ·rw [if_pos c6] at H
    have c6b0 : decide (17179869184 < a0_1) = true := decide_eq_true c6
    clear c6
    have H' := Aside0.mk H
    clear H
    have hcz7_0 : w3.cell? ⟨gb46001, 0, none⟩ = some (.int .i64 a0_0) := (blk_cell BK46001.out 0).trans rfl
    have hcz7_1 : w3.cell? ⟨gb46001, 1, none⟩ = some (.int .i64 a0_1) := (blk_cell BK46001.out 1).trans rfl
    have hcz7_2 : w3.cell? ⟨gb46001, 2, none⟩ = some (.bool a0_2) := (blk_cell BK46001.out 2).trans rfl
    have hfz7_0 := blk_frozen BK46001.out 0
    have hfz7_1 := blk_frozen BK46001.out 1
    have hfz7_2 := blk_frozen BK46001.out 2
    go_wp2
    go_meet
    case rel => exact ⟨_, (true), (by first | rfl | (simp; done) | (simp [*]; done)), H', ⟨by first | omega | exact Nat.le_refl _⟩, ⟨BK46001.out⟩, ⟨by repeat (first | exact HB.out | apply below_alloc | apply pw_below_drewN | apply below_drew1 | refine below_set ?_ GE46001.out)⟩⟩
   ·rw [if_neg c6] at H
    have c6b0 : decide (17179869184 < a0_1) = false := decide_eq_false c6
    clear c6
    by_cases c8 : a0_0 < 0
    ·rw [if_pos c8] at H
     have c8b0 : decide (a0_0 < 0) = true := decide_eq_true c8
     clear c8
     have H' := Aside0.mk H
     clear H
     have hcz9_0 : w3.cell? ⟨gb46001, 0, none⟩ = some (.int .i64 a0_0) := (blk_cell BK46001.out 0).trans rfl
     have hcz9_1 : w3.cell? ⟨gb46001, 1, none⟩ = some (.int .i64 a0_1) := (blk_cell BK46001.out 1).trans rfl
     have hcz9_2 : w3.cell? ⟨gb46001, 2, none⟩ = some (.bool a0_2) := (blk_cell BK46001.out 2).trans rfl
     have hfz9_0 := blk_frozen BK46001.out 0
     have hfz9_1 := blk_frozen BK46001.out 1
     have hfz9_2 := blk_frozen BK46001.out 2
     go_wp2
     go_meet
     case rel => exact ⟨_, (true), (by first | rfl | (simp; done) | (simp [*]; done)), H', ⟨by first | omega | exact Nat.le_refl _⟩, ⟨BK46001.out⟩, ⟨by repeat (first | exact HB.out | apply below_alloc | apply pw_below_drewN | apply below_drew1 | refine below_set ?_ GE46001.out)⟩⟩
    ·rw [if_neg c8] at H
     have c8b0 : decide (a0_0 < 0) = false := decide_eq_false c8
     clear c8
     have H' := Aside0.mk H
     clear H
     have hcz10_0 : w3.cell? ⟨gb46001, 0, none⟩ = some (.int .i64 a0_0) := (blk_cell BK46001.out 0).trans rfl
     have hcz10_1 : w3.cell? ⟨gb46001, 1, none⟩ = some (.int .i64 a0_1) := (blk_cell BK46001.out 1).trans rfl
     have hcz10_2 : w3.cell? ⟨gb46001, 2, none⟩ = some (.bool a0_2) := (blk_cell BK46001.out 2).trans rfl
     have hfz10_0 := blk_frozen BK46001.out 0
     have hfz10_1 := blk_frozen BK46001.out 1
     have hfz10_2 := blk_frozen BK46001.out 2
     go_wp2
     go_meet
     case rel => exact ⟨_, (decide (a0_0 ≥ 17179869184)), (by first | rfl | (simp; done) | (simp [*]; done)), H', ⟨by first | omega | exact Nat.le_refl _⟩, ⟨BK46001.out⟩, ⟨by repeat (first | exact HB.out | apply below_alloc | apply pw_below_drewN | apply below_drew1 | refine below_set ?_ GE46001.out)⟩⟩
 case rest =>
  clear HC2
  try clear p2
  try clear c4
  try clear c4b0
  try clear c6
  try clear c6b0
  try clear c8
  try clear c8b0
  try clear hcz10_0
  try clear hcz10_1
  try clear hcz10_2
  try clear hcz5_0
  try clear hcz5_1
  try clear hcz5_2
  try clear hcz7_0
  try clear hcz7_1
  try clear hcz7_2
  try clear hcz9_0
  try clear hcz9_1
  try clear hcz9_2
  try clear hfz10_0
  try clear hfz10_1
  try clear hfz10_2
  try clear hfz5_0
  try clear hfz5_1
  try clear hfz5_2
  try clear hfz7_0
  try clear hfz7_1
  try clear hfz7_2
  try clear hfz9_0
  try clear hfz9_1
  try clear hfz9_2
  obtain ⟨kq, x20_1, rfl, HA, HJ1, BK46001, HB⟩ := hcut
  cases kq with
  | zero => exact absurd HA.out (by simp [papermillref13_good.j0])
  | succ kj1 =>
   have H := HA.out
   clear HA
   simp only [papermillref13_good.j0] at H
   by_cases c11 : x20_1 = true
   ·subst c11
    rw [if_pos rfl] at H
    obtain rfl := Option.some.inj H
    go_wp2
    go_ret
    exact ⟨by first | rfl | (simp [errW_none, errW_some] <;> rfl) | (simp [*, errW_none, errW_some] <;> rfl), by repeat (first | exact HB.out | apply below_alloc | apply pw_below_drewN | apply below_drew1 | refine below_set ?_ GE46001.out)⟩
   ·replace c11 := Bool.eq_false_iff.mpr c11
    subst c11
    have H1 : (if a0_2 = true then (some (decide ((wrap64 ((wrap64 (a0_0 - a0_1)) + 1)) ≥ 0))) else (some (decide ((wrap64 (a0_0 + a0_1)) ≤ 17179869184)))) = some r := by rw [if_neg (show ¬ (false = true) by decide)] at H; first | exact H | simpa using H
    clear H
    have H := H1
    clear H1
    by_cases c12 : a0_2 = true
    ·subst c12
     rw [if_pos rfl] at H
     obtain rfl := Option.some.inj H
     have hcz13_0 : wc.cell? ⟨gb46001, 0, none⟩ = some (.int .i64 a0_0) := (blk_cell BK46001.out 0).trans rfl
     have hcz13_1 : wc.cell? ⟨gb46001, 1, none⟩ = some (.int .i64 a0_1) := (blk_cell BK46001.out 1).trans rfl
     have hcz13_2 : wc.cell? ⟨gb46001, 2, none⟩ = some (.bool true) := (blk_cell BK46001.out 2).trans rfl
     have hfz13_0 := blk_frozen BK46001.out 0
     have hfz13_1 := blk_frozen BK46001.out 1
     have hfz13_2 := blk_frozen BK46001.out 2
     go_wp2
     go_ret
     exact ⟨by first | rfl | (simp [errW_none, errW_some] <;> rfl) | (simp [*, errW_none, errW_some] <;> rfl), by repeat (first | exact HB.out | apply below_alloc | apply pw_below_drewN | apply below_drew1 | refine below_set ?_ GE46001.out)⟩
    ·replace c12 := Bool.eq_false_iff.mpr c12
     subst c12
     have H1 : (some (decide ((wrap64 (a0_0 + a0_1)) ≤ 17179869184))) = some r := by rw [if_neg (show ¬ (false = true) by decide)] at H; first | exact H | simpa using H
     clear H
     have H := H1
     clear H1
     obtain rfl := Option.some.inj H
     have hcz14_0 : wc.cell? ⟨gb46001, 0, none⟩ = some (.int .i64 a0_0) := (blk_cell BK46001.out 0).trans rfl
     have hcz14_1 : wc.cell? ⟨gb46001, 1, none⟩ = some (.int .i64 a0_1) := (blk_cell BK46001.out 1).trans rfl
     have hcz14_2 : wc.cell? ⟨gb46001, 2, none⟩ = some (.bool false) := (blk_cell BK46001.out 2).trans rfl
     have hfz14_0 := blk_frozen BK46001.out 0
     have hfz14_1 := blk_frozen BK46001.out 1
     have hfz14_2 := blk_frozen BK46001.out 2
     go_wp2
     go_ret
     exact ⟨by first | rfl | (simp [errW_none, errW_some] <;> rfl) | (simp [*, errW_none, errW_some] <;> rfl), by repeat (first | exact HB.out | apply below_alloc | apply pw_below_drewN | apply below_drew1 | refine below_set ?_ GE46001.out)⟩

end Go.Proofs.Ytalpegglbfobiaa.G

namespace Go.Proofs.Ytalpegglbfobiaa.G
open Go.RowKit Go.Proofs.YtalpegglbfobiaaW.PrintWords Go.Proofs.YtalpegglbfobiaaW.PrintLast Go.Proofs.YtalpegglbfobiaaW.PrintMore
attribute [local go_sem] max2_int min2_int max_two min_two max_three min_three max_four min_four   -- for this text's walks alone
set_option linter.unusedVariables false
set_option linter.unusedSimpArgs false

def papermillref13_length.l0 : Nat → List (S44) → Int → Int → Option (Int)
 | 0, _, _, _ => none
 | k + 1, x0, x3, x4 => if x4 < (x0.length : Int) then (if 0 ≤ x4 then (papermillref13_length.l0 k x0 (wrap64 (x3 + ((rd_T44 x0 x4).f1))) (wrap64 (x4 + 1))) else (none)) else (some x3)
def papermillref13_length.f (k : Nat) (l0 : List (S44)) : Option (Int) := papermillref13_length.l0 k l0 0 0
set_option maxHeartbeats 8000000 in
set_option maxRecDepth 100000 in
theorem papermillref13_length.calls (k : Nat) (A0 : Option Addr) (c0 : Nat) (l0 : List (S44)) (r : Int) (w : World) (hr0 : Kd.C k44 w A0 l0.length l0) (hc0 : l0.length ≤ c0) (h : papermillref13_length.f k l0 = some r) :
  Calls Try.prog 46 #[.slice A0 l0.length c0] w fun e w' => e = .returned (.int .i64 r) ∧ Drawn0 w w' := by
 have HR0 := Aside0.mk hr0
 have HC0 := Aside0.mk hc0
 clear hr0 hc0
 have H : (papermillref13_length.l0 k l0 0 0) = some r := h
 clear h
 have H' := Aside0.mk H
 clear H
 go_enter Try.func46, Try.ntmps46
 go_wp2
 go_loopg [3, 4] k (fun kq v3 v4 w' => ∃ (x3_1 : Int) (x4_1 : Int), v3 = .int .i64 x3_1 ∧ v4 = .int .i64 x4_1 ∧ Aside0 (papermillref13_length.l0 kq l0 x3_1 x4_1 = some r) ∧ Aside0 (kq ≤ k) ∧ Drawn0 w w')
 case atStart => exact ⟨(0), (0), (by first | rfl | (simp; done) | (simp [*]; done)), (by first | rfl | (simp; done) | (simp [*]; done)), H', ⟨Nat.le_refl _⟩, by repeat (first | exact Drawn0.refl _ | apply Drawn0.step)⟩
 case round =>
  clear H'
  obtain ⟨x3_1, x4_1, rfl, rfl, HA, HK1, ⟨m1, rfl⟩⟩ := hrel
  cases gk with
  | zero => exact absurd HA.out (by simp [papermillref13_length.l0])
  | succ k1 =>
   have H := HA.out
   clear HA
   simp only [papermillref13_length.l0] at H
   by_cases c2 : x4_1 < (l0.length : Int)
   ·rw [if_pos c2] at H
    have c2b0 : decide (x4_1 < (l0.length : Int)) = true := decide_eq_true c2
    clear c2
    by_cases c3 : 0 ≤ x4_1
    ·rw [if_pos c3] at H
     have c3b0 : decide (0 ≤ x4_1) = true := decide_eq_true c3
     clear c3
     have H' := Aside0.mk H
     clear H
     have p47001 : 0 ≤ (x4_1 : Int) := of_decide_eq_true (by assumption)
     have q47001 : x4_1 < (l0.length : Int) := of_decide_eq_true (by assumption)
     obtain ⟨ad47001, e47001, hx47001_0, hx47001_1, hx47001_2⟩ := at_T44 HR0.out x4_1 p47001 q47001
     cases e47001
     replace p47001 := eq_true p47001
     replace q47001 := eq_true q47001
     go_wp2
     go_roundg k1
     case measure => have := HK1.out; omega
     case rel => exact ⟨(wrap64 (x3_1 + ((rd_T44 l0 x4_1).f1))), (wrap64 (x4_1 + 1)), (by first | rfl | (simp; done) | (simp [*]; done)), (by first | rfl | (simp; done) | (simp [*]; done)), H', ⟨by have := HK1.out; omega⟩, by repeat (first | exact Drawn0.refl _ | apply Drawn0.step)⟩
    ·rw [if_neg c3] at H
     exact absurd H (by simp)
   ·rw [if_neg c2] at H
    have c2b0 : decide (x4_1 < (l0.length : Int)) = false := decide_eq_false c2
    clear c2
    obtain rfl := Option.some.inj H
    go_wp2
    go_ret
    exact ⟨by first | rfl | (simp; done) | (simp [*]; done), by repeat (first | exact Drawn0.refl _ | apply Drawn0.step)⟩

end Go.Proofs.Ytalpegglbfobiaa.G

namespace Go.Proofs.Ytalpegglbfobiaa.G
open Go.RowKit Go.Proofs.YtalpegglbfobiaaW.PrintWords Go.Proofs.YtalpegglbfobiaaW.PrintLast Go.Proofs.YtalpegglbfobiaaW.PrintMore
attribute [local go_sem] max2_int min2_int max_two min_two max_three min_three max_four min_four   -- for this text's walks alone
set_option linter.unusedVariables false
set_option linter.unusedSimpArgs false

def papermillref13_Check.l0 : Nat → List (S44) → Int → Option (Int)
 | 0, _, _ => none
 | k + 1, x0, x3 => if x3 < (x0.length : Int) then (if 0 ≤ x3 then ((papermillref13_good.f k ((rd_T44 x0 x3).f0) ((rd_T44 x0 x3).f1) ((rd_T44 x0 x3).f2)).bind fun t26002 => (if t26002 = true then (papermillref13_Check.l0 k x0 (wrap64 (x3 + 1))) else (some 1))) else (none)) else ((papermillref13_length.f k x0).bind fun t26003 => (if t26003 > 17179869184 then (some 21) else (some 0)))
def papermillref13_Check.f (k : Nat) (l0 : List (S44)) : Option (Int) := if (l0.length : Int) > 256 then (some 8) else (papermillref13_Check.l0 k l0 0)
set_option maxHeartbeats 8000000 in
set_option maxRecDepth 100000 in
theorem papermillref13_Check.calls (k : Nat) (A0 : Option Addr) (c0 : Nat) (l0 : List (S44)) (r : Int) (w : World) (hr0 : Kd.C k44 w A0 l0.length l0) (hc0 : l0.length ≤ c0) (h : papermillref13_Check.f k l0 = some r) :
  Calls Try.prog 25 #[.slice A0 l0.length c0] w fun e w' => e = .returned (.int .i64 r) ∧ Below w.heap.size w w' := by
 have hu44 := Try.underlying44
 have HR0 := Aside0.mk hr0
 have HC0 := Aside0.mk hc0
 clear hr0 hc0
 have HB := Aside0.mk (Below.refl w.heap.size w)
 have H : (if (l0.length : Int) > 256 then (some 8) else (papermillref13_Check.l0 k l0 0)) = some r := h
 clear h
 by_cases c2 : (l0.length : Int) > 256
 ·rw [if_pos c2] at H
  have c2b0 : decide (256 < (l0.length : Int)) = true := decide_eq_true c2
  have c2b1 : decide (256 < l0.length) = true := decide_eq_true (by omega)
  clear c2
  obtain rfl := Option.some.inj H
  go_enter Try.func25, Try.ntmps25
  go_wp2
  go_ret
  exact ⟨by first | rfl | (simp [errW_none, errW_some] <;> rfl) | (simp [*, errW_none, errW_some] <;> rfl), by repeat (first | exact HB.out | apply below_alloc | apply pw_below_drewN | apply below_drew1)⟩
 ·rw [if_neg c2] at H
  have c2b0 : decide (256 < (l0.length : Int)) = false := decide_eq_false c2
  have c2b1 : decide (256 < l0.length) = false := decide_eq_false (by omega)
  clear c2
  have H' := Aside0.mk H
  clear H
  go_enter Try.func25, Try.ntmps25
  go_wp2
  go_loopg [3] k (fun kq v3 w' => ∃ (x3_1 : Int), v3 = .int .i64 x3_1 ∧ Aside0 (papermillref13_Check.l0 kq l0 x3_1 = some r) ∧ Aside0 (kq ≤ k) ∧ Aside0 (Below w.heap.size w w'))
  case atStart => exact ⟨(0), (by first | rfl | (simp; done) | (simp [*]; done)), H', ⟨Nat.le_refl _⟩, ⟨by repeat (first | exact HB.out | apply below_alloc | apply pw_below_drewN | apply below_drew1)⟩⟩
  case round =>
   clear H'
   try clear c2
   try clear c2b0
   try clear c2b1
   try clear p2
   obtain ⟨x3_1, rfl, HA, HK1, HB⟩ := hrel
   cases gk with
   | zero => exact absurd HA.out (by simp [papermillref13_Check.l0])
   | succ k1 =>
    have H := HA.out
    clear HA
    simp only [papermillref13_Check.l0] at H
    by_cases c3 : x3_1 < (l0.length : Int)
    ·rw [if_pos c3] at H
     have c3b0 : decide (x3_1 < (l0.length : Int)) = true := decide_eq_true c3
     clear c3
     by_cases c4 : 0 ≤ x3_1
     ·rw [if_pos c4] at H
      have c4b0 : decide (0 ≤ x3_1) = true := decide_eq_true c4
      clear c4
      replace H := Option.bind_eq_some_iff.mp H
      obtain ⟨t26002, A50, H⟩ := H
      have A5 := Aside0.mk A50
      clear A50
      by_cases c6 : t26002 = true
      ·subst c6
       rw [if_pos rfl] at H
       have H' := Aside0.mk H
       clear H
       have p26001 : 0 ≤ (x3_1 : Int) := of_decide_eq_true (by assumption)
       have q26001 : x3_1 < (l0.length : Int) := of_decide_eq_true (by assumption)
       obtain ⟨ad26001, e26001, hx26001_0, hx26001_1, hx26001_2⟩ := at_T44 HR0.out x3_1 p26001 q26001
       cases e26001
       replace hx26001_0 := (HB.out.cell (World.block_lt_of_cell? w _ hx26001_0)).trans hx26001_0
       replace hx26001_1 := (HB.out.cell (World.block_lt_of_cell? w _ hx26001_1)).trans hx26001_1
       replace hx26001_2 := (HB.out.cell (World.block_lt_of_cell? w _ hx26001_2)).trans hx26001_2
       replace p26001 := eq_true p26001
       replace q26001 := eq_true q26001
       go_wp2_with (first | ((with_reducible refine gate_callee (f := 45) rfl ?_); refine goesL_ (some 17) rfl rfl Try.func45 (by kernel_rfl) rfl #[.agg #[.int .i64 ((rd_T44 l0 x3_1).f0), .int .i64 ((rd_T44 l0 x3_1).f1), .bool ((rd_T44 l0 x3_1).f2)]] rfl (by (try simp only [List.map_toArray, List.map_cons, List.map_nil]); first | done | rfl | (simp only [List.length_drop, List.length_take]; rfl)) ?_; (with_reducible refine (papermillref13_good.calls k1 ((rd_T44 l0 x3_1).f0) ((rd_T44 l0 x3_1).f1) ((rd_T44 l0 x3_1).f2) true _ A5.out).mono ?_); rintro e w7 ⟨rfl, hb⟩; refine ⟨_, rfl, ?_⟩; replace HB := Aside0.mk (below_step (by repeat (first | exact HB.out | apply below_alloc | apply pw_below_drewN | apply below_drew1)) hb); (try clear hb); (try clear hb2); (try clear hk); (try clear hi)))
       go_roundg k1
       case measure => have := HK1.out; omega
       case rel => exact ⟨(wrap64 (x3_1 + 1)), (by first | rfl | (simp; done) | (simp [*]; done)), H', ⟨by have := HK1.out; omega⟩, ⟨by repeat (first | exact HB.out | apply below_alloc | apply pw_below_drewN | apply below_drew1)⟩⟩
      ·replace c6 := Bool.eq_false_iff.mpr c6
       subst c6
       have H1 : (some 1) = some r := by rw [if_neg (show ¬ (false = true) by decide)] at H; first | exact H | simpa using H
       clear H
       have H := H1
       clear H1
       obtain rfl := Option.some.inj H
       have p26001 : 0 ≤ (x3_1 : Int) := of_decide_eq_true (by assumption)
       have q26001 : x3_1 < (l0.length : Int) := of_decide_eq_true (by assumption)
       obtain ⟨ad26001, e26001, hx26001_0, hx26001_1, hx26001_2⟩ := at_T44 HR0.out x3_1 p26001 q26001
       cases e26001
       replace hx26001_0 := (HB.out.cell (World.block_lt_of_cell? w _ hx26001_0)).trans hx26001_0
       replace hx26001_1 := (HB.out.cell (World.block_lt_of_cell? w _ hx26001_1)).trans hx26001_1
       replace hx26001_2 := (HB.out.cell (World.block_lt_of_cell? w _ hx26001_2)).trans hx26001_2
       replace p26001 := eq_true p26001
       replace q26001 := eq_true q26001
       go_wp2_with (first | ((with_reducible refine gate_callee (f := 45) rfl ?_); refine goesL_ (some 17) rfl rfl Try.func45 (by kernel_rfl) rfl #[.agg #[.int .i64 ((rd_T44 l0 x3_1).f0), .int .i64 ((rd_T44 l0 x3_1).f1), .bool ((rd_T44 l0 x3_1).f2)]] rfl (by (try simp only [List.map_toArray, List.map_cons, List.map_nil]); first | done | rfl | (simp only [List.length_drop, List.length_take]; rfl)) ?_; (with_reducible refine (papermillref13_good.calls k1 ((rd_T44 l0 x3_1).f0) ((rd_T44 l0 x3_1).f1) ((rd_T44 l0 x3_1).f2) false _ A5.out).mono ?_); rintro e w8 ⟨rfl, hb⟩; refine ⟨_, rfl, ?_⟩; replace HB := Aside0.mk (below_step (by repeat (first | exact HB.out | apply below_alloc | apply pw_below_drewN | apply below_drew1)) hb); (try clear hb); (try clear hb2); (try clear hk); (try clear hi)))
       go_ret
       exact ⟨by first | rfl | (simp [errW_none, errW_some] <;> rfl) | (simp [*, errW_none, errW_some] <;> rfl), by repeat (first | exact HB.out | apply below_alloc | apply pw_below_drewN | apply below_drew1)⟩
     ·rw [if_neg c4] at H
      exact absurd H (by simp)
    ·rw [if_neg c3] at H
     have c3b0 : decide (x3_1 < (l0.length : Int)) = false := decide_eq_false c3
     clear c3
     replace H := Option.bind_eq_some_iff.mp H
     obtain ⟨t26003, A90, H⟩ := H
     have A9 := Aside0.mk A90
     clear A90
     by_cases c10 : t26003 > 17179869184
     ·rw [if_pos c10] at H
      have c10b0 : decide (17179869184 < t26003) = true := decide_eq_true c10
      clear c10
      obtain rfl := Option.some.inj H
      go_wp2_with (first | ((with_reducible refine gate_callee (f := 46) rfl ?_); refine goesL_ (some 20) rfl rfl Try.func46 (by kernel_rfl) rfl #[.slice A0 l0.length c0] rfl (by (try simp only [List.map_toArray, List.map_cons, List.map_nil]); first | done | rfl | (simp only [List.length_drop, List.length_take]; rfl)) ?_; (with_reducible refine (papermillref13_length.calls k1 _ _ l0 t26003 _ ?side1 ?side2 A9.out).mono ?_); (case side1 => exact (Kd.C_below HR0.out HB.out)); (case side2 => exact HC0.out); rintro e w' ⟨rfl, ⟨nd, rfl⟩⟩; refine ⟨_, rfl, ?_⟩))
      go_ret
      exact ⟨by first | rfl | (simp [errW_none, errW_some] <;> rfl) | (simp [*, errW_none, errW_some] <;> rfl), by repeat (first | exact HB.out | apply below_alloc | apply pw_below_drewN | apply below_drew1)⟩
     ·rw [if_neg c10] at H
      have c10b0 : decide (17179869184 < t26003) = false := decide_eq_false c10
      clear c10
      obtain rfl := Option.some.inj H
      go_wp2_with (first | ((with_reducible refine gate_callee (f := 46) rfl ?_); refine goesL_ (some 20) rfl rfl Try.func46 (by kernel_rfl) rfl #[.slice A0 l0.length c0] rfl (by (try simp only [List.map_toArray, List.map_cons, List.map_nil]); first | done | rfl | (simp only [List.length_drop, List.length_take]; rfl)) ?_; (with_reducible refine (papermillref13_length.calls k1 _ _ l0 t26003 _ ?side1 ?side2 A9.out).mono ?_); (case side1 => exact (Kd.C_below HR0.out HB.out)); (case side2 => exact HC0.out); rintro e w' ⟨rfl, ⟨nd, rfl⟩⟩; refine ⟨_, rfl, ?_⟩))
      go_ret
      exact ⟨by first | rfl | (simp [errW_none, errW_some] <;> rfl) | (simp [*, errW_none, errW_some] <;> rfl), by repeat (first | exact HB.out | apply below_alloc | apply pw_below_drewN | apply below_drew1)⟩

end Go.Proofs.Ytalpegglbfobiaa.G

namespace Go.Proofs.Ytalpegglbfobiaa.G
open Go.RowKit Go.Proofs.YtalpegglbfobiaaW.PrintWords Go.Proofs.YtalpegglbfobiaaW.PrintLast Go.Proofs.YtalpegglbfobiaaW.PrintMore
attribute [local go_sem] max2_int min2_int max_two min_two max_three min_three max_four min_four   -- for this text's walks alone
set_option linter.unusedVariables false
set_option linter.unusedSimpArgs false

def papermillref13_image.f (a0_0 : Int) (a0_1 : Int) (a0_2 : Bool) (a1 : Int) : Option (Int) := if a0_2 = true then (some (wrap64 (a0_0 - a1))) else (some (wrap64 (a0_0 + a1)))
set_option maxHeartbeats 8000000 in
set_option maxRecDepth 100000 in
theorem papermillref13_image.calls (a0_0 : Int) (a0_1 : Int) (a0_2 : Bool) (a1 : Int) (r : Int) (w : World) (h : papermillref13_image.f a0_0 a0_1 a0_2 a1 = some r) :
  Calls Try.prog 48 #[.agg #[.int .i64 a0_0, .int .i64 a0_1, .bool a0_2], .int .i64 a1] w fun e w' => e = .returned (.int .i64 r) ∧ Below w.heap.size w w' := by
 have hu44 := Try.underlying44
 have HB := Aside0.mk (Below.refl w.heap.size w)
 have H : (if a0_2 = true then (some (wrap64 (a0_0 - a1))) else (some (wrap64 (a0_0 + a1)))) = some r := h
 clear h
 by_cases c3 : a0_2 = true
 ·subst c3
  rw [if_pos rfl] at H
  obtain rfl := Option.some.inj H
  go_enter Try.func48, Try.ntmps48
  go_wp2_with (first | ((with_reducible refine gate_dst (N := 2) rfl ?_); refine box_event ?hg (N := 2) ?hd (cs := #[.int .i64 a0_0, .int .i64 a0_1, .bool true]) (t := 44) ?hr ?_; (case hd => rfl); (case hg => rfl); (case hr => first | (go_simp; done) | (go_simp; rfl)); intro gb49001 hg w4 hbox hb; have BK49001 := Aside0.mk (hbox); have GW49001 := Aside0.mk ((by rw [hg]; exact (below_size (by repeat (first | exact HB.out | apply below_alloc | apply pw_below_drewN | apply below_drew1))) : w.heap.size ≤ gb49001)); have GE49001 := Aside0.mk ((by rw [hg]; exact (below_size (by repeat (first | exact HB.out | apply below_alloc | apply pw_below_drewN | apply below_drew1))) : w.heap.size ≤ gb49001)); replace HB := Aside0.mk (below_step (by repeat (first | exact HB.out | apply below_alloc | apply pw_below_drewN | apply below_drew1)) hb); clear hb hbox hg; have hcz5_0 : w4.cell? ⟨gb49001, 0, none⟩ = some (.int .i64 a0_0) := (blk_cell BK49001.out 0).trans rfl; have hcz5_1 : w4.cell? ⟨gb49001, 1, none⟩ = some (.int .i64 a0_1) := (blk_cell BK49001.out 1).trans rfl; have hcz5_2 : w4.cell? ⟨gb49001, 2, none⟩ = some (.bool true) := (blk_cell BK49001.out 2).trans rfl; have hfz5_0 := blk_frozen BK49001.out 0; have hfz5_1 := blk_frozen BK49001.out 1; have hfz5_2 := blk_frozen BK49001.out 2))
  go_ret
  exact ⟨by first | rfl | (simp [errW_none, errW_some] <;> rfl) | (simp [*, errW_none, errW_some] <;> rfl), by repeat (first | exact HB.out | apply below_alloc | apply pw_below_drewN | apply below_drew1 | refine below_set ?_ GE49001.out)⟩
 ·replace c3 := Bool.eq_false_iff.mpr c3
  subst c3
  have H1 : (some (wrap64 (a0_0 + a1))) = some r := by rw [if_neg (show ¬ (false = true) by decide)] at H; first | exact H | simpa using H
  clear H
  have H := H1
  clear H1
  obtain rfl := Option.some.inj H
  go_enter Try.func48, Try.ntmps48
  go_wp2_with (first | ((with_reducible refine gate_dst (N := 2) rfl ?_); refine box_event ?hg (N := 2) ?hd (cs := #[.int .i64 a0_0, .int .i64 a0_1, .bool false]) (t := 44) ?hr ?_; (case hd => rfl); (case hg => rfl); (case hr => first | (go_simp; done) | (go_simp; rfl)); intro gb49001 hg w6 hbox hb; have BK49001 := Aside0.mk (hbox); have GW49001 := Aside0.mk ((by rw [hg]; exact (below_size (by repeat (first | exact HB.out | apply below_alloc | apply pw_below_drewN | apply below_drew1))) : w.heap.size ≤ gb49001)); have GE49001 := Aside0.mk ((by rw [hg]; exact (below_size (by repeat (first | exact HB.out | apply below_alloc | apply pw_below_drewN | apply below_drew1))) : w.heap.size ≤ gb49001)); replace HB := Aside0.mk (below_step (by repeat (first | exact HB.out | apply below_alloc | apply pw_below_drewN | apply below_drew1)) hb); clear hb hbox hg; have hcz7_0 : w6.cell? ⟨gb49001, 0, none⟩ = some (.int .i64 a0_0) := (blk_cell BK49001.out 0).trans rfl; have hcz7_1 : w6.cell? ⟨gb49001, 1, none⟩ = some (.int .i64 a0_1) := (blk_cell BK49001.out 1).trans rfl; have hcz7_2 : w6.cell? ⟨gb49001, 2, none⟩ = some (.bool false) := (blk_cell BK49001.out 2).trans rfl; have hfz7_0 := blk_frozen BK49001.out 0; have hfz7_1 := blk_frozen BK49001.out 1; have hfz7_2 := blk_frozen BK49001.out 2))
  go_ret
  exact ⟨by first | rfl | (simp [errW_none, errW_some] <;> rfl) | (simp [*, errW_none, errW_some] <;> rfl), by repeat (first | exact HB.out | apply below_alloc | apply pw_below_drewN | apply below_drew1 | refine below_set ?_ GE49001.out)⟩

end Go.Proofs.Ytalpegglbfobiaa.G

namespace Go.Proofs.Ytalpegglbfobiaa.G
open Go.RowKit Go.Proofs.YtalpegglbfobiaaW.PrintWords Go.Proofs.YtalpegglbfobiaaW.PrintLast Go.Proofs.YtalpegglbfobiaaW.PrintMore
attribute [local go_sem] max2_int min2_int max_two min_two max_three min_three max_four min_four   -- for this text's walks alone
set_option linter.unusedVariables false
set_option linter.unusedSimpArgs false

def papermillref13_cut.f (a0_0 : Int) (a0_1 : Int) (a0_2 : Bool) (a1 : Int) (a2 : Int) : Option (Int × Int × Bool) := (papermillref13_image.f a0_0 a0_1 a0_2 a1).bind fun t73003 => (if a0_2 = true then (some (t73003, a2, decide (a2 > 1))) else (some (t73003, a2, false)))
def papermillref13_cut.T1 : Bool × List (List Nat × List Nat) := (true, [([], []), ([], []), ([0, 1], [0, 1]), ([], []), ([], []), ([4], [4]), ([5, 2], [5]), ([6], [6]), ([7, 6], [6, 7]), ([6, 8], [6, 8]), ([2, 3, 9], [2, 3, 9]), ([10, 6, 0, 1, 2, 3, 4, 5, 6, 7, 8, 9, 10], [10])])
def papermillref13_cut.B1 : List Nat := [0, 0, 3, 0, 0, 16, 55, 119, 247, 503, 1023, 2047]
theorem papermillref13_cut.tab1 : rtab .any (opsOf Try.f72 1) = papermillref13_cut.T1 := by kernel_rfl
theorem papermillref13_cut.bits1 : waitsOk papermillref13_cut.T1.2 papermillref13_cut.B1 = true := by kernel_rfl
set_option maxHeartbeats 8000000 in
set_option maxRecDepth 100000 in
theorem papermillref13_cut.calls (a0_0 : Int) (a0_1 : Int) (a0_2 : Bool) (a1 : Int) (a2 : Int) (r1 : Int) (r2 : Int) (r3 : Bool) (w : World) (h : papermillref13_cut.f a0_0 a0_1 a0_2 a1 a2 = some (r1, r2, r3)) :
  Calls Try.prog 72 #[.agg #[.int .i64 a0_0, .int .i64 a0_1, .bool a0_2], .int .i64 a1, .int .i64 a2] w fun e w' => e = .returned (.agg #[.int .i64 r1, .int .i64 r2, .bool r3]) ∧ Below w.heap.size w w' := by
 have hu44 := Try.underlying44
 have HB := Aside0.mk (Below.refl w.heap.size w)
 have H : ((papermillref13_image.f a0_0 a0_1 a0_2 a1).bind fun t73003 => (if a0_2 = true then (some (t73003, a2, decide (a2 > 1))) else (some (t73003, a2, false)))) = some (r1, r2, r3) := h
 clear h
 replace H := Option.bind_eq_some_iff.mp H
 obtain ⟨t73003, A40, H⟩ := H
 have A4 := Aside0.mk A40
 clear A40
 by_cases c5 : a0_2 = true
 ·subst c5
  rw [if_pos rfl] at H
  simp only [Option.some.injEq, Prod.mk.injEq] at H
  obtain ⟨rfl, rfl, rfl⟩ := H
  go_enter Try.func72, Try.ntmps72
  try go_wp2_with (first | ((with_reducible refine gate_dst (N := 3) rfl ?_); refine box_event ?hg (N := 3) ?hd (cs := #[.int .i64 a0_0, .int .i64 a0_1, .bool true]) (t := 44) ?hr ?_; (case hd => rfl); (case hg => rfl); (case hr => first | (go_simp; done) | (go_simp; rfl)); intro gb73001 hg w6 hbox hb; have BK73001 := Aside0.mk (hbox); have GW73001 := Aside0.mk ((by rw [hg]; exact (below_size (by repeat (first | exact HB.out | apply below_alloc | apply pw_below_drewN | apply below_drew1))) : w.heap.size ≤ gb73001)); have GE73001 := Aside0.mk ((by rw [hg]; exact (below_size (by repeat (first | exact HB.out | apply below_alloc | apply pw_below_drewN | apply below_drew1))) : w.heap.size ≤ gb73001)); replace HB := Aside0.mk (below_step (by repeat (first | exact HB.out | apply below_alloc | apply pw_below_drewN | apply below_drew1)) hb); clear hb hbox hg) | ((with_reducible refine gate_dst (N := 6) rfl ?_); refine box_event ?hg (N := 6) ?hd (cs := #[.int .i64 0, .int .i64 0, .bool false]) (t := 44) ?hr ?_; (case hd => rfl); (case hg => rfl); (case hr => first | (go_simp; done) | (go_simp; rfl)); intro gb73002 hg w7 hbox hb; have BK73002 := Aside0.mk (hbox); have GW73002 := Aside0.mk ((by rw [hg]; exact (below_size (by repeat (first | exact HB.out | apply below_alloc | apply pw_below_drewN | apply below_drew1 | refine below_set ?_ GE73001.out))) : w.heap.size ≤ gb73002)); have GE73002 := Aside0.mk ((by rw [hg]; exact (below_size (by repeat (first | exact HB.out | apply below_alloc | apply pw_below_drewN | apply below_drew1 | refine below_set ?_ GE73001.out))) : w.heap.size ≤ gb73002)); replace HB := Aside0.mk (below_step (by repeat (first | exact HB.out | apply below_alloc | apply pw_below_drewN | apply below_drew1 | refine below_set ?_ GE73001.out)) hb); have NB73001_73002 := Aside0.mk ((by rw [hg]; exact Nat.ne_of_lt (blk_lt (g := gb73001) (o := .cells #[.int .i64 a0_0, .int .i64 a0_1, .bool true] 44 (0, 0)) (BK73001.out)) : gb73001 ≠ gb73002)); have NB73002_73001 := Aside0.mk ((by rw [hg]; exact Nat.ne_of_gt (blk_lt (g := gb73001) (o := .cells #[.int .i64 a0_0, .int .i64 a0_1, .bool true] 44 (0, 0)) (BK73001.out)) : gb73002 ≠ gb73001)); replace BK73001 := Aside0.mk (blk_below (g := gb73001) (o := .cells #[.int .i64 a0_0, .int .i64 a0_1, .bool true] 44 (0, 0)) (BK73001.out) hb); clear hb hbox hg))
  replace BK73001 := Aside0.mk (blk_drew BK73001.out)
  replace BK73002 := Aside0.mk (blk_drew BK73002.out)
  replace HB := Aside0.mk (below_drew1 HB.out)
  refine start_ (n := 12) (S := fun w' => w'.cell? ⟨gb73001, 0, none⟩ = some (.int .i64 a0_0) ∧ w'.cell? ⟨gb73001, 1, none⟩ = some (.int .i64 a0_1) ∧ w'.cell? ⟨gb73001, 2, none⟩ = some (.bool true)) (ds := []) #[false, false, false, false, false, false, false, false, false, false, false, false] (by kernel_rfl) rfl rfl ⟨(blk_cell BK73001.out 0).trans rfl, (blk_cell BK73001.out 1).trans rfl, (blk_cell BK73001.out 2).trans rfl⟩ (fun hHeld => ?_); refine with_tabW papermillref13_cut.tab1 papermillref13_cut.bits1 (fun HT_ HW_ => ?_)
  generalize w7.drew = w8 at BK73001 BK73002 HB hHeld ⊢
  refine pu_ 1 (some 8) HT_ ?_
  refine pu_ 3 (some 10) HT_ ?_
  refine pu_ 4 (some 11) HT_ ?_
  refine tk_ 0 (some 7) HT_ HW_ hHeld ?_ (hy := .inl ⟨by rfl, by rintro w' ⟨s0, s1, s2⟩; go_simp; with_reducible rfl⟩)
  refine tk_ 5 (some 12) HT_ HW_ hHeld ?_ (hy := .inl ⟨by rfl, by rintro w' ⟨s0, s1, s2⟩; go_simp; with_reducible rfl⟩)
  refine one_ (i := 2) (N := some 9) #[true, true, true, true, true, true, false, false, false, false, false, false] rfl rfl (one_of HT_.out (by kernel_rfl)) (by decide) (fun K hK => ?_)
  refine goes_ Try.func48 (by kernel_rfl) rfl #[.agg #[.int .i64 a0_0, .int .i64 a0_1, .bool true], .int .i64 a1] (by rfl) rfl rfl (by (try simp only [List.map_toArray, List.map_cons, List.map_nil]); first | done | rfl | (simp only [List.length_drop, List.length_take]; rfl)) ?_
  with_reducible refine (papermillref13_image.calls a0_0 a0_1 true a1 t73003 _ A4.out).mono ?_
  rintro e w9 ⟨rfl, hb⟩
  refine ⟨_, rfl, ?_⟩
  replace BK73001 := Aside0.mk (blk_below (g := gb73001) (o := .cells #[.int .i64 a0_0, .int .i64 a0_1, .bool true] 44 (0, 0)) (BK73001.out) hb)
  replace BK73002 := Aside0.mk (blk_below (g := gb73002) (o := .cells #[.int .i64 0, .int .i64 0, .bool false] 44 (0, 0)) (BK73002.out) hb)
  replace HB := Aside0.mk (below_step (by repeat (first | exact HB.out | apply below_alloc | apply pw_below_drewN | apply below_drew1 | refine below_set ?_ GE73001.out | refine below_set ?_ GE73002.out)) hb)
  (try clear hb)
  (try clear hb2)
  (try clear hk)
  (try clear hi)
  refine hK.out _ _ ⟨(blk_cell BK73001.out 0).trans rfl, (blk_cell BK73001.out 1).trans rfl, (blk_cell BK73001.out 2).trans rfl⟩ (fun hHeld => ?_)
  clear hK K
  refine norm_ (a' := ?_) ?_ ?_
  rotate_left
  ·show Act.put _ (some 9) _ = _
   simp only [Act.put, List.setIfInBounds_toArray, List.set_cons_zero, List.set_cons_succ, i64_w, i32_w]
   rfl
  refine pu_ 6 (some 13) HT_ ?_
  refine pu_ 7 (some 14) HT_ ?_
  refine pu_ 8 (some 15) HT_ ?_
  refine pu_ 9 (some 16) HT_ ?_
  refine pu_ 10 (some 17) HT_ ?_
  refine one_ (i := 11) (N := none) #[true, true, true, true, true, true, true, true, true, true, true, true] rfl rfl (one_of HT_.out (by kernel_rfl)) (by decide) (fun K hK => ?_)
  have hs10 : w9.cell? ⟨gb73002, 0, none⟩ = some (.int .i64 0) := (blk_cell BK73002.out 0).trans rfl
  have hfs10 := blk_frozen BK73002.out 0
  have hns10_0 := NB73001_73002.out
  have hms10_0 := NB73002_73001.out
  have hs11 : w9.cell? ⟨gb73002, 1, none⟩ = some (.int .i64 0) := (blk_cell BK73002.out 1).trans rfl
  have hfs11 := blk_frozen BK73002.out 1
  have hns11_0 := NB73001_73002.out
  have hms11_0 := NB73002_73001.out
  have hs12 : w9.cell? ⟨gb73002, 2, none⟩ = some (.bool false) := (blk_cell BK73002.out 2).trans rfl
  have hfs12 := blk_frozen BK73002.out 2
  have hns12_0 := NB73001_73002.out
  have hms12_0 := NB73002_73001.out
  refine skip_ (w1 := ?_) (by rfl) rfl ?_ ?_
  rotate_left
  ·go_simp
   rfl
  refine hK.out _ _ ⟨((cell_far (p := ⟨gb73002, _, none⟩) NB73001_73002.out _).trans (((cell_far (p := ⟨gb73002, _, none⟩) NB73001_73002.out _).trans (((cell_far (p := ⟨gb73002, _, none⟩) NB73001_73002.out _).trans (hHeld.1)))))), ((cell_far (p := ⟨gb73002, _, none⟩) NB73001_73002.out _).trans (((cell_far (p := ⟨gb73002, _, none⟩) NB73001_73002.out _).trans (((cell_far (p := ⟨gb73002, _, none⟩) NB73001_73002.out _).trans (hHeld.2.1)))))), ((cell_far (p := ⟨gb73002, _, none⟩) NB73001_73002.out _).trans (((cell_far (p := ⟨gb73002, _, none⟩) NB73001_73002.out _).trans (((cell_far (p := ⟨gb73002, _, none⟩) NB73001_73002.out _).trans (hHeld.2.2))))))⟩ (fun hHeld => ?_)
  clear hK K
  refine done_ (done_of HT_.out (by kernel_rfl)) ?_
  try go_wp2
  refine bodyPost_ret (results_cell_row rfl _ _ gb73002 44 #[.int .i64 t73003, .int .i64 a2, .bool (decide (a2 > 1))] (0, 0) _ rfl (by refine blk_put (cs := #[.int .i64 t73003, .int .i64 a2, .bool false]) ?_ 2 _ rfl; refine blk_put (cs := #[.int .i64 t73003, .int .i64 0, .bool false]) ?_ 1 _ rfl; refine blk_put (cs := #[.int .i64 0, .int .i64 0, .bool false]) ?_ 0 _ rfl; exact BK73002.out) Try.underlying44 rfl (by kernel_rfl)) rfl ?_
  exact ⟨by first | rfl | (simp [errW_none, errW_some] <;> rfl) | (simp [*, errW_none, errW_some] <;> rfl), by repeat (first | exact HB.out | apply below_alloc | apply pw_below_drewN | apply below_drew1 | refine below_set ?_ GE73001.out | refine below_set ?_ GE73002.out)⟩
 ·replace c5 := Bool.eq_false_iff.mpr c5
  subst c5
  have H1 : (some (t73003, a2, false)) = some (r1, r2, r3) := by rw [if_neg (show ¬ (false = true) by decide)] at H; first | exact H | simpa using H
  clear H
  have H := H1
  clear H1
  simp only [Option.some.injEq, Prod.mk.injEq] at H
  obtain ⟨rfl, rfl, rfl⟩ := H
  go_enter Try.func72, Try.ntmps72
  try go_wp2_with (first | ((with_reducible refine gate_dst (N := 3) rfl ?_); refine box_event ?hg (N := 3) ?hd (cs := #[.int .i64 a0_0, .int .i64 a0_1, .bool false]) (t := 44) ?hr ?_; (case hd => rfl); (case hg => rfl); (case hr => first | (go_simp; done) | (go_simp; rfl)); intro gb73001 hg w13 hbox hb; have BK73001 := Aside0.mk (hbox); have GW73001 := Aside0.mk ((by rw [hg]; exact (below_size (by repeat (first | exact HB.out | apply below_alloc | apply pw_below_drewN | apply below_drew1))) : w.heap.size ≤ gb73001)); have GE73001 := Aside0.mk ((by rw [hg]; exact (below_size (by repeat (first | exact HB.out | apply below_alloc | apply pw_below_drewN | apply below_drew1))) : w.heap.size ≤ gb73001)); replace HB := Aside0.mk (below_step (by repeat (first | exact HB.out | apply below_alloc | apply pw_below_drewN | apply below_drew1)) hb); clear hb hbox hg) | ((with_reducible refine gate_dst (N := 6) rfl ?_); refine box_event ?hg (N := 6) ?hd (cs := #[.int .i64 0, .int .i64 0, .bool false]) (t := 44) ?hr ?_; (case hd => rfl); (case hg => rfl); (case hr => first | (go_simp; done) | (go_simp; rfl)); intro gb73002 hg w14 hbox hb; have BK73002 := Aside0.mk (hbox); have GW73002 := Aside0.mk ((by rw [hg]; exact (below_size (by repeat (first | exact HB.out | apply below_alloc | apply pw_below_drewN | apply below_drew1 | refine below_set ?_ GE73001.out))) : w.heap.size ≤ gb73002)); have GE73002 := Aside0.mk ((by rw [hg]; exact (below_size (by repeat (first | exact HB.out | apply below_alloc | apply pw_below_drewN | apply below_drew1 | refine below_set ?_ GE73001.out))) : w.heap.size ≤ gb73002)); replace HB := Aside0.mk (below_step (by repeat (first | exact HB.out | apply below_alloc | apply pw_below_drewN | apply below_drew1 | refine below_set ?_ GE73001.out)) hb); have NB73001_73002 := Aside0.mk ((by rw [hg]; exact Nat.ne_of_lt (blk_lt (g := gb73001) (o := .cells #[.int .i64 a0_0, .int .i64 a0_1, .bool false] 44 (0, 0)) (BK73001.out)) : gb73001 ≠ gb73002)); have NB73002_73001 := Aside0.mk ((by rw [hg]; exact Nat.ne_of_gt (blk_lt (g := gb73001) (o := .cells #[.int .i64 a0_0, .int .i64 a0_1, .bool false] 44 (0, 0)) (BK73001.out)) : gb73002 ≠ gb73001)); replace BK73001 := Aside0.mk (blk_below (g := gb73001) (o := .cells #[.int .i64 a0_0, .int .i64 a0_1, .bool false] 44 (0, 0)) (BK73001.out) hb); clear hb hbox hg))
  replace BK73001 := Aside0.mk (blk_drew BK73001.out)
  replace BK73002 := Aside0.mk (blk_drew BK73002.out)
  replace HB := Aside0.mk (below_drew1 HB.out)
  refine start_ (n := 12) (S := fun w' => w'.cell? ⟨gb73001, 0, none⟩ = some (.int .i64 a0_0) ∧ w'.cell? ⟨gb73001, 1, none⟩ = some (.int .i64 a0_1) ∧ w'.cell? ⟨gb73001, 2, none⟩ = some (.bool false)) (ds := []) #[false, false, false, false, false, false, false, false, false, false, false, false] (by kernel_rfl) rfl rfl ⟨(blk_cell BK73001.out 0).trans rfl, (blk_cell BK73001.out 1).trans rfl, (blk_cell BK73001.out 2).trans rfl⟩ (fun hHeld => ?_); refine with_tabW papermillref13_cut.tab1 papermillref13_cut.bits1 (fun HT_ HW_ => ?_)
  generalize w14.drew = w15 at BK73001 BK73002 HB hHeld ⊢
  refine pu_ 1 (some 8) HT_ ?_
  refine pu_ 3 (some 10) HT_ ?_
  refine pu_ 4 (some 11) HT_ ?_
  refine tk_ 0 (some 7) HT_ HW_ hHeld ?_ (hy := .inl ⟨by rfl, by rintro w' ⟨s0, s1, s2⟩; go_simp; with_reducible rfl⟩)
  refine tk_ 5 (some 12) HT_ HW_ hHeld ?_ (hy := .inl ⟨by rfl, by rintro w' ⟨s0, s1, s2⟩; go_simp; with_reducible rfl⟩)
  refine one_ (i := 2) (N := some 9) #[true, true, true, true, true, true, false, false, false, false, false, false] rfl rfl (one_of HT_.out (by kernel_rfl)) (by decide) (fun K hK => ?_)
  refine goes_ Try.func48 (by kernel_rfl) rfl #[.agg #[.int .i64 a0_0, .int .i64 a0_1, .bool false], .int .i64 a1] (by rfl) rfl rfl (by (try simp only [List.map_toArray, List.map_cons, List.map_nil]); first | done | rfl | (simp only [List.length_drop, List.length_take]; rfl)) ?_
  with_reducible refine (papermillref13_image.calls a0_0 a0_1 false a1 t73003 _ A4.out).mono ?_
  rintro e w16 ⟨rfl, hb⟩
  refine ⟨_, rfl, ?_⟩
  replace BK73001 := Aside0.mk (blk_below (g := gb73001) (o := .cells #[.int .i64 a0_0, .int .i64 a0_1, .bool false] 44 (0, 0)) (BK73001.out) hb)
  replace BK73002 := Aside0.mk (blk_below (g := gb73002) (o := .cells #[.int .i64 0, .int .i64 0, .bool false] 44 (0, 0)) (BK73002.out) hb)
  replace HB := Aside0.mk (below_step (by repeat (first | exact HB.out | apply below_alloc | apply pw_below_drewN | apply below_drew1 | refine below_set ?_ GE73001.out | refine below_set ?_ GE73002.out)) hb)
  (try clear hb)
  (try clear hb2)
  (try clear hk)
  (try clear hi)
  refine hK.out _ _ ⟨(blk_cell BK73001.out 0).trans rfl, (blk_cell BK73001.out 1).trans rfl, (blk_cell BK73001.out 2).trans rfl⟩ (fun hHeld => ?_)
  clear hK K
  refine norm_ (a' := ?_) ?_ ?_
  rotate_left
  ·show Act.put _ (some 9) _ = _
   simp only [Act.put, List.setIfInBounds_toArray, List.set_cons_zero, List.set_cons_succ, i64_w, i32_w]
   rfl
  refine pu_ 6 (some 13) HT_ ?_
  refine pn_ 7 (some 14) HT_ ?_
  refine pn_ 8 (some 15) HT_ ?_
  refine pu_ 9 (some 16) HT_ ?_
  refine pu_ 10 (some 17) HT_ ?_
  refine one_ (i := 11) (N := none) #[true, true, true, true, true, true, true, true, true, true, true, true] rfl rfl (one_of HT_.out (by kernel_rfl)) (by decide) (fun K hK => ?_)
  have hs17 : w16.cell? ⟨gb73002, 0, none⟩ = some (.int .i64 0) := (blk_cell BK73002.out 0).trans rfl
  have hfs17 := blk_frozen BK73002.out 0
  have hns17_0 := NB73001_73002.out
  have hms17_0 := NB73002_73001.out
  have hs18 : w16.cell? ⟨gb73002, 1, none⟩ = some (.int .i64 0) := (blk_cell BK73002.out 1).trans rfl
  have hfs18 := blk_frozen BK73002.out 1
  have hns18_0 := NB73001_73002.out
  have hms18_0 := NB73002_73001.out
  have hs19 : w16.cell? ⟨gb73002, 2, none⟩ = some (.bool false) := (blk_cell BK73002.out 2).trans rfl
  have hfs19 := blk_frozen BK73002.out 2
  have hns19_0 := NB73001_73002.out
  have hms19_0 := NB73002_73001.out
  refine skip_ (w1 := ?_) (by rfl) rfl ?_ ?_
  rotate_left
  ·go_simp
   rfl
  refine hK.out _ _ ⟨((cell_far (p := ⟨gb73002, _, none⟩) NB73001_73002.out _).trans (((cell_far (p := ⟨gb73002, _, none⟩) NB73001_73002.out _).trans (((cell_far (p := ⟨gb73002, _, none⟩) NB73001_73002.out _).trans (hHeld.1)))))), ((cell_far (p := ⟨gb73002, _, none⟩) NB73001_73002.out _).trans (((cell_far (p := ⟨gb73002, _, none⟩) NB73001_73002.out _).trans (((cell_far (p := ⟨gb73002, _, none⟩) NB73001_73002.out _).trans (hHeld.2.1)))))), ((cell_far (p := ⟨gb73002, _, none⟩) NB73001_73002.out _).trans (((cell_far (p := ⟨gb73002, _, none⟩) NB73001_73002.out _).trans (((cell_far (p := ⟨gb73002, _, none⟩) NB73001_73002.out _).trans (hHeld.2.2))))))⟩ (fun hHeld => ?_)
  clear hK K
  refine done_ (done_of HT_.out (by kernel_rfl)) ?_
  try go_wp2
  refine bodyPost_ret (results_cell_row rfl _ _ gb73002 44 #[.int .i64 t73003, .int .i64 a2, .bool false] (0, 0) _ rfl (by refine blk_put (cs := #[.int .i64 t73003, .int .i64 a2, .bool false]) ?_ 2 _ rfl; refine blk_put (cs := #[.int .i64 t73003, .int .i64 0, .bool false]) ?_ 1 _ rfl; refine blk_put (cs := #[.int .i64 0, .int .i64 0, .bool false]) ?_ 0 _ rfl; exact BK73002.out) Try.underlying44 rfl (by kernel_rfl)) rfl ?_
  exact ⟨by first | rfl | (simp [errW_none, errW_some] <;> rfl) | (simp [*, errW_none, errW_some] <;> rfl), by repeat (first | exact HB.out | apply below_alloc | apply pw_below_drewN | apply below_drew1 | refine below_set ?_ GE73001.out | refine below_set ?_ GE73002.out)⟩

end Go.Proofs.Ytalpegglbfobiaa.G
