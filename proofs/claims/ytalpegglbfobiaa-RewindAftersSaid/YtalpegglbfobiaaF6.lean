import Derived.Test.YtalpegglbfobiaaQ1
namespace Go.Proofs.Ytalpegglbfobiaa.G
open Go.RowKit Go.Proofs.YtalpegglbfobiaaW.PrintWords Go.Proofs.YtalpegglbfobiaaW.PrintLast Go.Proofs.YtalpegglbfobiaaW.PrintMore
attribute [local go_sem] max2_int min2_int max_two min_two max_three min_three max_four min_four   -- for this text's walks alone
set_option linter.unusedVariables false
set_option linter.unusedSimpArgs false

def papermilllaw41_few.l0 : Nat → List (List (S44)) → Int → Option (Bool)
 | 0, _, _ => none
 | k + 1, x0, x3 => if x3 < (x0.length : Int) then (if 0 ≤ x3 then (if ((rd_L6 x0 x3).length : Int) > 40 then (if ((rd_L6 x0 x3).length : Int) ≤ 256 then (some false) else (if ((rd_L6 x0 x3).length : Int) > 300 then (some false) else (papermilllaw41_few.l0 k x0 (wrap64 (x3 + 1))))) else (if ((rd_L6 x0 x3).length : Int) > 300 then (some false) else (papermilllaw41_few.l0 k x0 (wrap64 (x3 + 1))))) else (none)) else (some true)
def papermilllaw41_few.f (k : Nat) (l0 : List (List (S44))) : Option (Bool) := if (l0.length : Int) > 20 then (some false) else (papermilllaw41_few.l0 k l0 0)
set_option maxHeartbeats 8000000 in
set_option maxRecDepth 100000 in
theorem papermilllaw41_few.calls (k : Nat) (A0 : Option Addr) (c0 : Nat) (l0 : List (List (S44))) (r : Bool) (w : World) (hr0 : Kd.C (Kd.slice 44 k44) w A0 l0.length l0) (hc0 : l0.length ≤ c0) (h : papermilllaw41_few.f k l0 = some r) :
  Calls Try.prog 20 #[.slice A0 l0.length c0] w fun e w' => e = .returned (.bool r) ∧ Drawn0 w w' := by
 have HR0 := Aside0.mk hr0
 have HC0 := Aside0.mk hc0
 clear hr0 hc0
 have H : (if (l0.length : Int) > 20 then (some false) else (papermilllaw41_few.l0 k l0 0)) = some r := h
 clear h
 by_cases c2 : (l0.length : Int) > 20
 ·rw [if_pos c2] at H
  have c2b0 : decide (20 < (l0.length : Int)) = true := decide_eq_true c2
  have c2b1 : decide (20 < l0.length) = true := decide_eq_true (by omega)
  clear c2
  obtain rfl := Option.some.inj H
  go_enter Try.func20, Try.ntmps20
  go_wp2
  go_ret
  exact ⟨by first | rfl | (simp; done) | (simp [*]; done), by repeat (first | exact Drawn0.refl _ | apply Drawn0.step)⟩
 ·rw [if_neg c2] at H
  have c2b0 : decide (20 < (l0.length : Int)) = false := decide_eq_false c2
  have c2b1 : decide (20 < l0.length) = false := decide_eq_false (by omega)
  clear c2
  have H' := Aside0.mk H
  clear H
  go_enter Try.func20, Try.ntmps20
  go_wp2
  go_loopg [3] k (fun kq v3 w' => ∃ (x3_1 : Int), v3 = .int .i64 x3_1 ∧ Aside0 (papermilllaw41_few.l0 kq l0 x3_1 = some r) ∧ Aside0 (kq ≤ k) ∧ Drawn0 w w')
  case atStart => exact ⟨(0), (by first | rfl | (simp; done) | (simp [*]; done)), H', ⟨Nat.le_refl _⟩, by repeat (first | exact Drawn0.refl _ | apply Drawn0.step)⟩
  case round =>
   clear H'
   try clear c2
   try clear c2b0
   try clear c2b1
   try clear p2
   obtain ⟨x3_1, rfl, HA, HK1, ⟨m1, rfl⟩⟩ := hrel
   cases gk with
   | zero => exact absurd HA.out (by simp [papermilllaw41_few.l0])
   | succ k1 =>
    have H := HA.out
    clear HA
    simp only [papermilllaw41_few.l0] at H
    by_cases c3 : x3_1 < (l0.length : Int)
    ·rw [if_pos c3] at H
     have c3b0 : decide (x3_1 < (l0.length : Int)) = true := decide_eq_true c3
     clear c3
     by_cases c4 : 0 ≤ x3_1
     ·rw [if_pos c4] at H
      have c4b0 : decide (0 ≤ x3_1) = true := decide_eq_true c4
      clear c4
      by_cases c5 : ((rd_L6 l0 x3_1).length : Int) > 40
      ·rw [if_pos c5] at H
       have c5b0 : decide (40 < ((rd_L6 l0 x3_1).length : Int)) = true := decide_eq_true c5
       have c5b1 : decide (40 < (rd_L6 l0 x3_1).length) = true := decide_eq_true (by omega)
       clear c5
       by_cases c6 : ((rd_L6 l0 x3_1).length : Int) ≤ 256
       ·rw [if_pos c6] at H
        have c6b0 : decide (((rd_L6 l0 x3_1).length : Int) ≤ 256) = true := decide_eq_true c6
        have c6b1 : decide ((rd_L6 l0 x3_1).length ≤ 256) = true := decide_eq_true (by omega)
        clear c6
        obtain rfl := Option.some.inj H
        have p21001 : 0 ≤ (x3_1 : Int) := of_decide_eq_true (by assumption)
        have q21001 : x3_1 < (l0.length : Int) := of_decide_eq_true (by assumption)
        obtain ⟨ad21001, A21001_0, c21001_0, e21001, hx21001_0, hl21001_0, hi21001_0⟩ := at_L6 HR0.out x3_1 p21001 q21001
        cases e21001
        have HR21001_0 := Aside0.mk hi21001_0
        have HC21001_0 := Aside0.mk hl21001_0
        clear hi21001_0 hl21001_0
        replace p21001 := eq_true p21001
        replace q21001 := eq_true q21001
        have p21002 : 0 ≤ (x3_1 : Int) := of_decide_eq_true (by assumption)
        have q21002 : x3_1 < (l0.length : Int) := of_decide_eq_true (by assumption)
        obtain ⟨ad21002, A21002_0, c21002_0, e21002, hx21002_0, hl21002_0, hi21002_0⟩ := at_L6 HR0.out x3_1 p21002 q21002
        obtain rfl : ad21001 = ad21002 := (by injection e21002)
        have HR21002_0 := Aside0.mk hi21002_0
        have HC21002_0 := Aside0.mk hl21002_0
        clear hi21002_0 hl21002_0
        replace p21002 := eq_true p21002
        replace q21002 := eq_true q21002
        have ea_ := Option.some.inj (hx21001_0.symm.trans hx21002_0)
        injection ea_ with ea_ en_ ec_
        subst ea_
        subst ec_
        clear en_
        go_wp2
        go_ret
        exact ⟨by first | rfl | (simp; done) | (simp [*]; done), by repeat (first | exact Drawn0.refl _ | apply Drawn0.step)⟩
       ·rw [if_neg c6] at H
        have c6b0 : decide (((rd_L6 l0 x3_1).length : Int) ≤ 256) = false := decide_eq_false c6
        have c6b1 : decide ((rd_L6 l0 x3_1).length ≤ 256) = false := decide_eq_false (by omega)
        clear c6
        by_cases c7 : ((rd_L6 l0 x3_1).length : Int) > 300
        ·rw [if_pos c7] at H
         have c7b0 : decide (300 < ((rd_L6 l0 x3_1).length : Int)) = true := decide_eq_true c7
         have c7b1 : decide (300 < (rd_L6 l0 x3_1).length) = true := decide_eq_true (by omega)
         clear c7
         obtain rfl := Option.some.inj H
         have p21001 : 0 ≤ (x3_1 : Int) := of_decide_eq_true (by assumption)
         have q21001 : x3_1 < (l0.length : Int) := of_decide_eq_true (by assumption)
         obtain ⟨ad21001, A21001_0, c21001_0, e21001, hx21001_0, hl21001_0, hi21001_0⟩ := at_L6 HR0.out x3_1 p21001 q21001
         cases e21001
         have HR21001_0 := Aside0.mk hi21001_0
         have HC21001_0 := Aside0.mk hl21001_0
         clear hi21001_0 hl21001_0
         replace p21001 := eq_true p21001
         replace q21001 := eq_true q21001
         have p21002 : 0 ≤ (x3_1 : Int) := of_decide_eq_true (by assumption)
         have q21002 : x3_1 < (l0.length : Int) := of_decide_eq_true (by assumption)
         obtain ⟨ad21002, A21002_0, c21002_0, e21002, hx21002_0, hl21002_0, hi21002_0⟩ := at_L6 HR0.out x3_1 p21002 q21002
         obtain rfl : ad21001 = ad21002 := (by injection e21002)
         have HR21002_0 := Aside0.mk hi21002_0
         have HC21002_0 := Aside0.mk hl21002_0
         clear hi21002_0 hl21002_0
         replace p21002 := eq_true p21002
         replace q21002 := eq_true q21002
         have ea_ := Option.some.inj (hx21001_0.symm.trans hx21002_0)
         injection ea_ with ea_ en_ ec_
         subst ea_
         subst ec_
         clear en_
         have p21003 : 0 ≤ (x3_1 : Int) := of_decide_eq_true (by assumption)
         have q21003 : x3_1 < (l0.length : Int) := of_decide_eq_true (by assumption)
         obtain ⟨ad21003, A21003_0, c21003_0, e21003, hx21003_0, hl21003_0, hi21003_0⟩ := at_L6 HR0.out x3_1 p21003 q21003
         obtain rfl : ad21001 = ad21003 := (by injection e21003)
         have HR21003_0 := Aside0.mk hi21003_0
         have HC21003_0 := Aside0.mk hl21003_0
         clear hi21003_0 hl21003_0
         replace p21003 := eq_true p21003
         replace q21003 := eq_true q21003
         have ea_ := Option.some.inj (hx21001_0.symm.trans hx21003_0)
         injection ea_ with ea_ en_ ec_
         subst ea_
         subst ec_
         clear en_
         go_wp2
         go_ret
         exact ⟨by first | rfl | (simp; done) | (simp [*]; done), by repeat (first | exact Drawn0.refl _ | apply Drawn0.step)⟩
        ·rw [if_neg c7] at H
         have c7b0 : decide (300 < ((rd_L6 l0 x3_1).length : Int)) = false := decide_eq_false c7
         have c7b1 : decide (300 < (rd_L6 l0 x3_1).length) = false := decide_eq_false (by omega)
         clear c7
         have H' := Aside0.mk H
         clear H
         have p21001 : 0 ≤ (x3_1 : Int) := of_decide_eq_true (by assumption)
         have q21001 : x3_1 < (l0.length : Int) := of_decide_eq_true (by assumption)
         obtain ⟨ad21001, A21001_0, c21001_0, e21001, hx21001_0, hl21001_0, hi21001_0⟩ := at_L6 HR0.out x3_1 p21001 q21001
         cases e21001
         have HR21001_0 := Aside0.mk hi21001_0
         have HC21001_0 := Aside0.mk hl21001_0
         clear hi21001_0 hl21001_0
         replace p21001 := eq_true p21001
         replace q21001 := eq_true q21001
         have p21002 : 0 ≤ (x3_1 : Int) := of_decide_eq_true (by assumption)
         have q21002 : x3_1 < (l0.length : Int) := of_decide_eq_true (by assumption)
         obtain ⟨ad21002, A21002_0, c21002_0, e21002, hx21002_0, hl21002_0, hi21002_0⟩ := at_L6 HR0.out x3_1 p21002 q21002
         obtain rfl : ad21001 = ad21002 := (by injection e21002)
         have HR21002_0 := Aside0.mk hi21002_0
         have HC21002_0 := Aside0.mk hl21002_0
         clear hi21002_0 hl21002_0
         replace p21002 := eq_true p21002
         replace q21002 := eq_true q21002
         have ea_ := Option.some.inj (hx21001_0.symm.trans hx21002_0)
         injection ea_ with ea_ en_ ec_
         subst ea_
         subst ec_
         clear en_
         have p21003 : 0 ≤ (x3_1 : Int) := of_decide_eq_true (by assumption)
         have q21003 : x3_1 < (l0.length : Int) := of_decide_eq_true (by assumption)
         obtain ⟨ad21003, A21003_0, c21003_0, e21003, hx21003_0, hl21003_0, hi21003_0⟩ := at_L6 HR0.out x3_1 p21003 q21003
         obtain rfl : ad21001 = ad21003 := (by injection e21003)
         have HR21003_0 := Aside0.mk hi21003_0
         have HC21003_0 := Aside0.mk hl21003_0
         clear hi21003_0 hl21003_0
         replace p21003 := eq_true p21003
         replace q21003 := eq_true q21003
         have ea_ := Option.some.inj (hx21001_0.symm.trans hx21003_0)
         injection ea_ with ea_ en_ ec_
         subst ea_
         subst ec_
         clear en_
         go_wp2
         go_roundg k1
         case measure => have := HK1.out; omega
         case rel => exact ⟨(wrap64 (x3_1 + 1)), (by first | rfl | (simp; done) | (simp [*]; done)), H', ⟨by have := HK1.out; omega⟩, by repeat (first | exact Drawn0.refl _ | apply Drawn0.step)⟩
      ·rw [if_neg c5] at H
       have c5b0 : decide (40 < ((rd_L6 l0 x3_1).length : Int)) = false := decide_eq_false c5
       have c5b1 : decide (40 < (rd_L6 l0 x3_1).length) = false := decide_eq_false (by omega)
       clear c5
       by_cases c8 : ((rd_L6 l0 x3_1).length : Int) > 300
       ·rw [if_pos c8] at H
        have c8b0 : decide (300 < ((rd_L6 l0 x3_1).length : Int)) = true := decide_eq_true c8
        have c8b1 : decide (300 < (rd_L6 l0 x3_1).length) = true := decide_eq_true (by omega)
        clear c8
        obtain rfl := Option.some.inj H
        have p21001 : 0 ≤ (x3_1 : Int) := of_decide_eq_true (by assumption)
        have q21001 : x3_1 < (l0.length : Int) := of_decide_eq_true (by assumption)
        obtain ⟨ad21001, A21001_0, c21001_0, e21001, hx21001_0, hl21001_0, hi21001_0⟩ := at_L6 HR0.out x3_1 p21001 q21001
        cases e21001
        have HR21001_0 := Aside0.mk hi21001_0
        have HC21001_0 := Aside0.mk hl21001_0
        clear hi21001_0 hl21001_0
        replace p21001 := eq_true p21001
        replace q21001 := eq_true q21001
        have p21004 : 0 ≤ (x3_1 : Int) := of_decide_eq_true (by assumption)
        have q21004 : x3_1 < (l0.length : Int) := of_decide_eq_true (by assumption)
        obtain ⟨ad21004, A21004_0, c21004_0, e21004, hx21004_0, hl21004_0, hi21004_0⟩ := at_L6 HR0.out x3_1 p21004 q21004
        obtain rfl : ad21001 = ad21004 := (by injection e21004)
        have HR21004_0 := Aside0.mk hi21004_0
        have HC21004_0 := Aside0.mk hl21004_0
        clear hi21004_0 hl21004_0
        replace p21004 := eq_true p21004
        replace q21004 := eq_true q21004
        have ea_ := Option.some.inj (hx21001_0.symm.trans hx21004_0)
        injection ea_ with ea_ en_ ec_
        subst ea_
        subst ec_
        clear en_
        go_wp2
        go_ret
        exact ⟨by first | rfl | (simp; done) | (simp [*]; done), by repeat (first | exact Drawn0.refl _ | apply Drawn0.step)⟩
       ·rw [if_neg c8] at H
        have c8b0 : decide (300 < ((rd_L6 l0 x3_1).length : Int)) = false := decide_eq_false c8
        have c8b1 : decide (300 < (rd_L6 l0 x3_1).length) = false := decide_eq_false (by omega)
        clear c8
        have H' := Aside0.mk H
        clear H
        have p21001 : 0 ≤ (x3_1 : Int) := of_decide_eq_true (by assumption)
        have q21001 : x3_1 < (l0.length : Int) := of_decide_eq_true (by assumption)
        obtain ⟨ad21001, A21001_0, c21001_0, e21001, hx21001_0, hl21001_0, hi21001_0⟩ := at_L6 HR0.out x3_1 p21001 q21001
        cases e21001
        have HR21001_0 := Aside0.mk hi21001_0
        have HC21001_0 := Aside0.mk hl21001_0
        clear hi21001_0 hl21001_0
        replace p21001 := eq_true p21001
        replace q21001 := eq_true q21001
        have p21004 : 0 ≤ (x3_1 : Int) := of_decide_eq_true (by assumption)
        have q21004 : x3_1 < (l0.length : Int) := of_decide_eq_true (by assumption)
        obtain ⟨ad21004, A21004_0, c21004_0, e21004, hx21004_0, hl21004_0, hi21004_0⟩ := at_L6 HR0.out x3_1 p21004 q21004
        obtain rfl : ad21001 = ad21004 := (by injection e21004)
        have HR21004_0 := Aside0.mk hi21004_0
        have HC21004_0 := Aside0.mk hl21004_0
        clear hi21004_0 hl21004_0
        replace p21004 := eq_true p21004
        replace q21004 := eq_true q21004
        have ea_ := Option.some.inj (hx21001_0.symm.trans hx21004_0)
        injection ea_ with ea_ en_ ec_
        subst ea_
        subst ec_
        clear en_
        go_wp2
        go_roundg k1
        case measure => have := HK1.out; omega
        case rel => exact ⟨(wrap64 (x3_1 + 1)), (by first | rfl | (simp; done) | (simp [*]; done)), H', ⟨by have := HK1.out; omega⟩, by repeat (first | exact Drawn0.refl _ | apply Drawn0.step)⟩
     ·rw [if_neg c4] at H
      exact absurd H (by simp)
    ·rw [if_neg c3] at H
     have c3b0 : decide (x3_1 < (l0.length : Int)) = false := decide_eq_false c3
     clear c3
     obtain rfl := Option.some.inj H
     go_wp2
     go_ret
     exact ⟨by first | rfl | (simp; done) | (simp [*]; done), by repeat (first | exact Drawn0.refl _ | apply Drawn0.step)⟩

end Go.Proofs.Ytalpegglbfobiaa.G

namespace Go.Proofs.Ytalpegglbfobiaa.G
open Go.RowKit Go.Proofs.YtalpegglbfobiaaW.PrintWords Go.Proofs.YtalpegglbfobiaaW.PrintLast Go.Proofs.YtalpegglbfobiaaW.PrintMore
attribute [local go_sem] max2_int min2_int max_two min_two max_three min_three max_four min_four   -- for this text's walks alone
set_option linter.unusedVariables false
set_option linter.unusedSimpArgs false

def papermillref13_good.j0 : Nat → Bool → Int → Int → Bool → Option (Bool)
 | 0, _, _, _, _ => none
 | k + 1, x20, x46002000, x46002001, x46002002 => if x20 = true then (some false) else (if x46002002 = true then (some (decide ((wrap64 ((wrap64 (x46002000 - x46002001)) + 1)) ≥ 0))) else (some (decide ((wrap64 (x46002000 + x46002001)) ≤ 17179869184))))
def papermillref13_good.f (k : Nat) (a0_0 : Int) (a0_1 : Int) (a0_2 : Bool) : Option (Bool) := if a0_1 < 1 then (papermillref13_good.j0 k true a0_0 a0_1 a0_2) else (if a0_1 > 17179869184 then (papermillref13_good.j0 k true a0_0 a0_1 a0_2) else (if a0_0 < 0 then (papermillref13_good.j0 k true a0_0 a0_1 a0_2) else (papermillref13_good.j0 k (decide (a0_0 ≥ 17179869184)) a0_0 a0_1 a0_2)))
set_option maxHeartbeats 8000000 in
set_option maxRecDepth 100000 in
theorem papermillref13_good.calls (k : Nat) (a0_0 : Int) (a0_1 : Int) (a0_2 : Bool) (r : Bool) (w : World) (h : papermillref13_good.f k a0_0 a0_1 a0_2 = some r) :
  Calls Try.prog 45 #[.agg #[.int .i64 a0_0, .int .i64 a0_1, .bool a0_2]] w fun e w' => e = .returned (.bool r) ∧ Below w.heap.size w w' := by
 have hu44 := Try.underlying44
 have HB := Aside0.mk (Below.refl w.heap.size w)
 have H : (if a0_1 < 1 then (papermillref13_good.j0 k true a0_0 a0_1 a0_2) else (if a0_1 > 17179869184 then (papermillref13_good.j0 k true a0_0 a0_1 a0_2) else (if a0_0 < 0 then (papermillref13_good.j0 k true a0_0 a0_1 a0_2) else (papermillref13_good.j0 k (decide (a0_0 ≥ 17179869184)) a0_0 a0_1 a0_2)))) = some r := h
 clear h
 have HC2 := Aside0.mk H
 clear H
 go_enter Try.func45, Try.ntmps45
 go_upto_region 1 with (first | ((with_reducible refine gate_dst (N := 1) rfl ?_); refine box_event ?hg (N := 1) ?hd (cs := #[.int .i64 a0_0, .int .i64 a0_1, .bool a0_2]) (t := 44) ?hr ?_; (case hd => rfl); (case hg => rfl); (case hr => first | (go_simp; done) | (go_simp; rfl)); intro gb46001 hg w3 hbox hb; have n0_ := Aside0.mk (below_step (by repeat (first | exact HB.out | apply below_alloc | apply pw_below_drewN | apply below_drew1)) hb); have n1_ := Aside0.mk (hbox); have n2_ := Aside0.mk ((by rw [hg]; exact (below_size (by repeat (first | exact HB.out | apply below_alloc | apply pw_below_drewN | apply below_drew1))) : w.heap.size ≤ gb46001)); have n3_ := Aside0.mk ((by rw [hg]; exact (below_size (by repeat (first | exact HB.out | apply below_alloc | apply pw_below_drewN | apply below_drew1))) : w.heap.size ≤ gb46001)); clear HB; have HB := n0_; have BK46001 := n1_; have GW46001 := n2_; have GE46001 := n3_; clear n0_ n1_ n2_ n3_; clear hb hbox hg))
 (try simp only [Act.put, List.setIfInBounds_toArray, List.set_cons_zero, List.set_cons_succ])
 go_cut [20] (fun v20 wc => ∃ (kq : Nat) (x20_1 : Bool), v20 = .bool x20_1 ∧ Aside0 (papermillref13_good.j0 kq x20_1 a0_0 a0_1 a0_2 = some r) ∧ Aside0 (kq ≤ k) ∧ Aside0 (wc.heap[gb46001]? = some (.cells #[.int .i64 a0_0, .int .i64 a0_1, .bool a0_2] 44 (0, 0))) ∧ Aside0 (Below w.heap.size w wc))
 case first =>
  have H := HC2.out
  clear HC2
  by_cases c4 : a0_1 < 1
  ·rw [if_pos c4] at H
   have c4b0 : decide (a0_1 < 1) = true := decide_eq_true c4
   clear c4
   (first | rw [c4b0] | (simp only [i64_w, i32_w]; rw [c4b0]) | skip)
   have H' := Aside0.mk H
   clear H
   have hcz5_0 : w3.cell? ⟨gb46001, 0, none⟩ = some (.int .i64 a0_0) := (blk_cell BK46001.out 0).trans rfl
   have hcz5_1 : w3.cell? ⟨gb46001, 1, none⟩ = some (.int .i64 a0_1) := (blk_cell BK46001.out 1).trans rfl
   have hcz5_2 : w3.cell? ⟨gb46001, 2, none⟩ = some (.bool a0_2) := (blk_cell BK46001.out 2).trans rfl
   have hfz5_0 := blk_frozen BK46001.out 0
   have hfz5_1 := blk_frozen BK46001.out 1
   have hfz5_2 := blk_frozen BK46001.out 2
   go_wp2
   go_meet
   case rel => exact ⟨_, (true), (by first | rfl | (simp; done) | (simp [*]; done)), H', ⟨by first | omega | exact Nat.le_refl _⟩, ⟨BK46001.out⟩, ⟨by repeat (first | exact HB.out | apply below_alloc | apply pw_below_drewN | apply below_drew1 | refine below_set ?_ GE46001.out)⟩⟩
  ·rw [if_neg c4] at H
   have c4b0 : decide (a0_1 < 1) = false := decide_eq_false c4
   clear c4
   (first | rw [c4b0] | (simp only [i64_w, i32_w]; rw [c4b0]) | skip)
   by_cases c6 : a0_1 > 17179869184
   ·rw [if_pos c6] at H
    have c6b0 : decide (17179869184 < a0_1) = true := decide_eq_true c6
    clear c6
    have H' := Aside0.mk H
    clear H
    have hcz7_0 : w3.cell? ⟨gb46001, 0, none⟩ = some (.int .i64 a0_0) := (blk_cell BK46001.out 0).trans rfl
    have hcz7_1 : w3.cell? ⟨gb46001, 1, none⟩ = some (.int .i64 a0_1) := (blk_cell BK46001.out 1).trans rfl
    have hcz7_2 : w3.cell? ⟨gb46001, 2, none⟩ = some (.bool a0_2) := (blk_cell BK46001.out 2).trans rfl
    have hfz7_0 := blk_frozen BK46001.out 0
    have hfz7_1 := blk_frozen BK46001.out 1
    have hfz7_2 := blk_frozen BK46001.out 2
    go_wp2
    go_meet
    case rel => exact ⟨_, (true), (by first | rfl | (simp; done) | (simp [*]; done)), H', ⟨by first | omega | exact Nat.le_refl _⟩, ⟨BK46001.out⟩, ⟨by repeat (first | exact HB.out | apply below_alloc | apply pw_below_drewN | apply below_drew1 | refine below_set ?_ GE46001.out)⟩⟩
   ·rw [if_neg c6] at H
    have c6b0 : decide (17179869184 < a0_1) = false := decide_eq_false c6
    clear c6
    by_cases c8 : a0_0 < 0
    ·rw [if_pos c8] at H
     have c8b0 : decide (a0_0 < 0) = true := decide_eq_true c8
     clear c8
     have H' := Aside0.mk H
     clear H
     have hcz9_0 : w3.cell? ⟨gb46001, 0, none⟩ = some (.int .i64 a0_0) := (blk_cell BK46001.out 0).trans rfl
     have hcz9_1 : w3.cell? ⟨gb46001, 1, none⟩ = some (.int .i64 a0_1) := (blk_cell BK46001.out 1).trans rfl
     have hcz9_2 : w3.cell? ⟨gb46001, 2, none⟩ = some (.bool a0_2) := (blk_cell BK46001.out 2).trans rfl
     have hfz9_0 := blk_frozen BK46001.out 0
     have hfz9_1 := blk_frozen BK46001.out 1
     have hfz9_2 := blk_frozen BK46001.out 2
     go_wp2
     go_meet
     case rel => exact ⟨_, (true), (by first | rfl | (simp; done) | (simp [*]; done)), H', ⟨by first | omega | exact Nat.le_refl _⟩, ⟨BK46001.out⟩, ⟨by repeat (first | exact HB.out | apply below_alloc | apply pw_below_drewN | apply below_drew1 | refine below_set ?_ GE46001.out)⟩⟩
    ·rw [if_neg c8] at H
     have c8b0 : decide (a0_0 < 0) = false := decide_eq_false c8
     clear c8
     have H' := Aside0.mk H
     clear H
     have hcz10_0 : w3.cell? ⟨gb46001, 0, none⟩ = some (.int .i64 a0_0) := (blk_cell BK46001.out 0).trans rfl
     have hcz10_1 : w3.cell? ⟨gb46001, 1, none⟩ = some (.int .i64 a0_1) := (blk_cell BK46001.out 1).trans rfl
     have hcz10_2 : w3.cell? ⟨gb46001, 2, none⟩ = some (.bool a0_2) := (blk_cell BK46001.out 2).trans rfl
     have hfz10_0 := blk_frozen BK46001.out 0
     have hfz10_1 := blk_frozen BK46001.out 1
     have hfz10_2 := blk_frozen BK46001.out 2
     go_wp2
     go_meet
     case rel => exact ⟨_, (decide (a0_0 ≥ 17179869184)), (by first | rfl | (simp; done) | (simp [*]; done)), H', ⟨by first | omega | exact Nat.le_refl _⟩, ⟨BK46001.out⟩, ⟨by repeat (first | exact HB.out | apply below_alloc | apply pw_below_drewN | apply below_drew1 | refine below_set ?_ GE46001.out)⟩⟩
 case rest =>
  clear HC2
  try clear p2
  try clear c4
  try clear c4b0
  try clear c6
  try clear c6b0
  try clear c8
  try clear c8b0
  try clear hcz10_0
  try clear hcz10_1
  try clear hcz10_2
  try clear hcz5_0
  try clear hcz5_1
  try clear hcz5_2
  try clear hcz7_0
  try clear hcz7_1
  try clear hcz7_2
  try clear hcz9_0
  try clear hcz9_1
  try clear hcz9_2
  try clear hfz10_0
  try clear hfz10_1
  try clear hfz10_2
  try clear hfz5_0
  try clear hfz5_1
  try clear hfz5_2
  try clear hfz7_0
  try clear hfz7_1
  try clear hfz7_2
  try clear hfz9_0
  try clear hfz9_1
  try clear hfz9_2
  obtain ⟨kq, x20_1, rfl, HA, HJ1, BK46001, HB⟩ := hcut
  cases kq with
  | zero => exact absurd HA.out (by simp [papermillref13_good.j0])
  | succ kj1 =>
   have H := HA.out
   clear HA
   simp only [papermillref13_good.j0] at H
   by_cases c11 : x20_1 = true
   ·subst c11
    have H1 : (some false) = some r := by rw [if_pos rfl] at H; exact H
    clear H
    have H := H1
    clear H1
    obtain rfl := Option.some.inj H
    go_wp2
    go_ret
    exact ⟨by first | rfl | (simp [errW_none, errW_some] <;> rfl) | (simp [*, errW_none, errW_some] <;> rfl), by repeat (first | exact HB.out | apply below_alloc | apply pw_below_drewN | apply below_drew1 | refine below_set ?_ GE46001.out)⟩
   ·replace c11 := Bool.eq_false_iff.mpr c11
    subst c11
    have H1 : (if a0_2 = true then (some (decide ((wrap64 ((wrap64 (a0_0 - a0_1)) + 1)) ≥ 0))) else (some (decide ((wrap64 (a0_0 + a0_1)) ≤ 17179869184)))) = some r := by rw [if_neg (show ¬ (false = true) by decide)] at H; first | exact H | simpa using H
    clear H
    have H := H1
    clear H1
    by_cases c12 : a0_2 = true
    ·subst c12
     have H1 : (some (decide ((wrap64 ((wrap64 (a0_0 - a0_1)) + 1)) ≥ 0))) = some r := by rw [if_pos rfl] at H; exact H
     clear H
     have H := H1
     clear H1
     obtain rfl := Option.some.inj H
     have hcz13_0 : wc.cell? ⟨gb46001, 0, none⟩ = some (.int .i64 a0_0) := (blk_cell BK46001.out 0).trans rfl
     have hcz13_1 : wc.cell? ⟨gb46001, 1, none⟩ = some (.int .i64 a0_1) := (blk_cell BK46001.out 1).trans rfl
     have hcz13_2 : wc.cell? ⟨gb46001, 2, none⟩ = some (.bool true) := (blk_cell BK46001.out 2).trans rfl
     have hfz13_0 := blk_frozen BK46001.out 0
     have hfz13_1 := blk_frozen BK46001.out 1
     have hfz13_2 := blk_frozen BK46001.out 2
     go_wp2
     go_ret
     exact ⟨by first | rfl | (simp [errW_none, errW_some] <;> rfl) | (simp [*, errW_none, errW_some] <;> rfl), by repeat (first | exact HB.out | apply below_alloc | apply pw_below_drewN | apply below_drew1 | refine below_set ?_ GE46001.out)⟩
    ·replace c12 := Bool.eq_false_iff.mpr c12
     subst c12
     have H1 : (some (decide ((wrap64 (a0_0 + a0_1)) ≤ 17179869184))) = some r := by rw [if_neg (show ¬ (false = true) by decide)] at H; first | exact H | simpa using H
     clear H
     have H := H1
     clear H1
     obtain rfl := Option.some.inj H
     have hcz14_0 : wc.cell? ⟨gb46001, 0, none⟩ = some (.int .i64 a0_0) := (blk_cell BK46001.out 0).trans rfl
     have hcz14_1 : wc.cell? ⟨gb46001, 1, none⟩ = some (.int .i64 a0_1) := (blk_cell BK46001.out 1).trans rfl
     have hcz14_2 : wc.cell? ⟨gb46001, 2, none⟩ = some (.bool false) := (blk_cell BK46001.out 2).trans rfl
     have hfz14_0 := blk_frozen BK46001.out 0
     have hfz14_1 := blk_frozen BK46001.out 1
     have hfz14_2 := blk_frozen BK46001.out 2
     go_wp2
     go_ret
     exact ⟨by first | rfl | (simp [errW_none, errW_some] <;> rfl) | (simp [*, errW_none, errW_some] <;> rfl), by repeat (first | exact HB.out | apply below_alloc | apply pw_below_drewN | apply below_drew1 | refine below_set ?_ GE46001.out)⟩

end Go.Proofs.Ytalpegglbfobiaa.G

namespace Go.Proofs.Ytalpegglbfobiaa.G
open Go.RowKit Go.Proofs.YtalpegglbfobiaaW.PrintWords Go.Proofs.YtalpegglbfobiaaW.PrintLast Go.Proofs.YtalpegglbfobiaaW.PrintMore
attribute [local go_sem] max2_int min2_int max_two min_two max_three min_three max_four min_four   -- for this text's walks alone
set_option linter.unusedVariables false
set_option linter.unusedSimpArgs false

def papermillref13_length.l0 : Nat → List (S44) → Int → Int → Option (Int)
 | 0, _, _, _ => none
 | k + 1, x0, x3, x4 => if x4 < (x0.length : Int) then (if 0 ≤ x4 then (papermillref13_length.l0 k x0 (wrap64 (x3 + ((rd_T44 x0 x4).f1))) (wrap64 (x4 + 1))) else (none)) else (some x3)
def papermillref13_length.f (k : Nat) (l0 : List (S44)) : Option (Int) := papermillref13_length.l0 k l0 0 0
set_option maxHeartbeats 8000000 in
set_option maxRecDepth 100000 in
theorem papermillref13_length.calls (k : Nat) (A0 : Option Addr) (c0 : Nat) (l0 : List (S44)) (r : Int) (w : World) (hr0 : Kd.C k44 w A0 l0.length l0) (hc0 : l0.length ≤ c0) (h : papermillref13_length.f k l0 = some r) :
  Calls Try.prog 46 #[.slice A0 l0.length c0] w fun e w' => e = .returned (.int .i64 r) ∧ Drawn0 w w' := by
 have HR0 := Aside0.mk hr0
 have HC0 := Aside0.mk hc0
 clear hr0 hc0
 have H : (papermillref13_length.l0 k l0 0 0) = some r := h
 clear h
 have H' := Aside0.mk H
 clear H
 go_enter Try.func46, Try.ntmps46
 go_wp2
 go_loopg [3, 4] k (fun kq v3 v4 w' => ∃ (x3_1 : Int) (x4_1 : Int), v3 = .int .i64 x3_1 ∧ v4 = .int .i64 x4_1 ∧ Aside0 (papermillref13_length.l0 kq l0 x3_1 x4_1 = some r) ∧ Aside0 (kq ≤ k) ∧ Drawn0 w w')
 case atStart => exact ⟨(0), (0), (by first | rfl | (simp; done) | (simp [*]; done)), (by first | rfl | (simp; done) | (simp [*]; done)), H', ⟨Nat.le_refl _⟩, by repeat (first | exact Drawn0.refl _ | apply Drawn0.step)⟩
 case round =>
  clear H'
  obtain ⟨x3_1, x4_1, rfl, rfl, HA, HK1, ⟨m1, rfl⟩⟩ := hrel
  cases gk with
  | zero => exact absurd HA.out (by simp [papermillref13_length.l0])
  | succ k1 =>
   have H := HA.out
   clear HA
   simp only [papermillref13_length.l0] at H
   by_cases c2 : x4_1 < (l0.length : Int)
   ·rw [if_pos c2] at H
    have c2b0 : decide (x4_1 < (l0.length : Int)) = true := decide_eq_true c2
    clear c2
    by_cases c3 : 0 ≤ x4_1
    ·rw [if_pos c3] at H
     have c3b0 : decide (0 ≤ x4_1) = true := decide_eq_true c3
     clear c3
     have H' := Aside0.mk H
     clear H
     have p47001 : 0 ≤ (x4_1 : Int) := of_decide_eq_true (by assumption)
     have q47001 : x4_1 < (l0.length : Int) := of_decide_eq_true (by assumption)
     obtain ⟨ad47001, e47001, hx47001_0, hx47001_1, hx47001_2⟩ := at_T44 HR0.out x4_1 p47001 q47001
     cases e47001
     replace p47001 := eq_true p47001
     replace q47001 := eq_true q47001
     go_wp2
     go_roundg k1
     case measure => have := HK1.out; omega
     case rel => exact ⟨(wrap64 (x3_1 + ((rd_T44 l0 x4_1).f1))), (wrap64 (x4_1 + 1)), (by first | rfl | (simp; done) | (simp [*]; done)), (by first | rfl | (simp; done) | (simp [*]; done)), H', ⟨by have := HK1.out; omega⟩, by repeat (first | exact Drawn0.refl _ | apply Drawn0.step)⟩
    ·rw [if_neg c3] at H
     exact absurd H (by simp)
   ·rw [if_neg c2] at H
    have c2b0 : decide (x4_1 < (l0.length : Int)) = false := decide_eq_false c2
    clear c2
    obtain rfl := Option.some.inj H
    go_wp2
    go_ret
    exact ⟨by first | rfl | (simp; done) | (simp [*]; done), by repeat (first | exact Drawn0.refl _ | apply Drawn0.step)⟩

end Go.Proofs.Ytalpegglbfobiaa.G

namespace Go.Proofs.Ytalpegglbfobiaa.G
open Go.RowKit Go.Proofs.YtalpegglbfobiaaW.PrintWords Go.Proofs.YtalpegglbfobiaaW.PrintLast Go.Proofs.YtalpegglbfobiaaW.PrintMore
attribute [local go_sem] max2_int min2_int max_two min_two max_three min_three max_four min_four   -- for this text's walks alone
set_option linter.unusedVariables false
set_option linter.unusedSimpArgs false

def papermillref13_Check.l0 : Nat → List (S44) → Int → Option (Int)
 | 0, _, _ => none
 | k + 1, x0, x3 => if x3 < (x0.length : Int) then (if 0 ≤ x3 then ((papermillref13_good.f k ((rd_T44 x0 x3).f0) ((rd_T44 x0 x3).f1) ((rd_T44 x0 x3).f2)).bind fun t26002 => (if t26002 = true then (papermillref13_Check.l0 k x0 (wrap64 (x3 + 1))) else (some 1))) else (none)) else ((papermillref13_length.f k x0).bind fun t26003 => (if t26003 > 17179869184 then (some 21) else (some 0)))
def papermillref13_Check.f (k : Nat) (l0 : List (S44)) : Option (Int) := if (l0.length : Int) > 256 then (some 8) else (papermillref13_Check.l0 k l0 0)
set_option maxHeartbeats 8000000 in
set_option maxRecDepth 100000 in
theorem papermillref13_Check.calls (k : Nat) (A0 : Option Addr) (c0 : Nat) (l0 : List (S44)) (r : Int) (w : World) (hr0 : Kd.C k44 w A0 l0.length l0) (hc0 : l0.length ≤ c0) (h : papermillref13_Check.f k l0 = some r) :
  Calls Try.prog 25 #[.slice A0 l0.length c0] w fun e w' => e = .returned (.int .i64 r) ∧ Below w.heap.size w w' := by
 have hu44 := Try.underlying44
 have HR0 := Aside0.mk hr0
 have HC0 := Aside0.mk hc0
 clear hr0 hc0
 have HB := Aside0.mk (Below.refl w.heap.size w)
 have H : (if (l0.length : Int) > 256 then (some 8) else (papermillref13_Check.l0 k l0 0)) = some r := h
 clear h
 by_cases c2 : (l0.length : Int) > 256
 ·rw [if_pos c2] at H
  have c2b0 : decide (256 < (l0.length : Int)) = true := decide_eq_true c2
  have c2b1 : decide (256 < l0.length) = true := decide_eq_true (by omega)
  clear c2
  obtain rfl := Option.some.inj H
  go_enter Try.func25, Try.ntmps25
  go_wp2
  go_ret
  exact ⟨by first | rfl | (simp [errW_none, errW_some] <;> rfl) | (simp [*, errW_none, errW_some] <;> rfl), by repeat (first | exact HB.out | apply below_alloc | apply pw_below_drewN | apply below_drew1)⟩
 ·rw [if_neg c2] at H
  have c2b0 : decide (256 < (l0.length : Int)) = false := decide_eq_false c2
  have c2b1 : decide (256 < l0.length) = false := decide_eq_false (by omega)
  clear c2
  have H' := Aside0.mk H
  clear H
  go_enter Try.func25, Try.ntmps25
  go_wp2
  go_loopg [3] k (fun kq v3 w' => ∃ (x3_1 : Int), v3 = .int .i64 x3_1 ∧ Aside0 (papermillref13_Check.l0 kq l0 x3_1 = some r) ∧ Aside0 (kq ≤ k) ∧ Aside0 (Below w.heap.size w w'))
  case atStart => exact ⟨(0), (by first | rfl | (simp; done) | (simp [*]; done)), H', ⟨Nat.le_refl _⟩, ⟨by repeat (first | exact HB.out | apply below_alloc | apply pw_below_drewN | apply below_drew1)⟩⟩
  case round =>
   clear H'
   try clear c2
   try clear c2b0
   try clear c2b1
   try clear p2
   obtain ⟨x3_1, rfl, HA, HK1, HB⟩ := hrel
   cases gk with
   | zero => exact absurd HA.out (by simp [papermillref13_Check.l0])
   | succ k1 =>
    have H := HA.out
    clear HA
    simp only [papermillref13_Check.l0] at H
    by_cases c3 : x3_1 < (l0.length : Int)
    ·rw [if_pos c3] at H
     have c3b0 : decide (x3_1 < (l0.length : Int)) = true := decide_eq_true c3
     clear c3
     by_cases c4 : 0 ≤ x3_1
     ·rw [if_pos c4] at H
      have c4b0 : decide (0 ≤ x3_1) = true := decide_eq_true c4
      clear c4
      replace H := Option.bind_eq_some_iff.mp H
      obtain ⟨t26002, A50, H⟩ := H
      replace H : (if t26002 = true then (papermillref13_Check.l0 k1 l0 (wrap64 (x3_1 + 1))) else (some 1)) = some r := H
      have A5 := Aside0.mk A50
      clear A50
      by_cases c6 : t26002 = true
      ·subst c6
       have H1 : (papermillref13_Check.l0 k1 l0 (wrap64 (x3_1 + 1))) = some r := by rw [if_pos rfl] at H; exact H
       clear H
       have H := H1
       clear H1
       have H' := Aside0.mk H
       clear H
       have p26001 : 0 ≤ (x3_1 : Int) := of_decide_eq_true (by assumption)
       have q26001 : x3_1 < (l0.length : Int) := of_decide_eq_true (by assumption)
       obtain ⟨ad26001, e26001, hx26001_0, hx26001_1, hx26001_2⟩ := at_T44 HR0.out x3_1 p26001 q26001
       cases e26001
       replace hx26001_0 := (HB.out.cell (World.block_lt_of_cell? w _ hx26001_0)).trans hx26001_0
       replace hx26001_1 := (HB.out.cell (World.block_lt_of_cell? w _ hx26001_1)).trans hx26001_1
       replace hx26001_2 := (HB.out.cell (World.block_lt_of_cell? w _ hx26001_2)).trans hx26001_2
       replace p26001 := eq_true p26001
       replace q26001 := eq_true q26001
       go_wp2_with (first | ((with_reducible refine gate_callee (f := 45) rfl ?_); refine goesL_ (some 17) rfl rfl Try.func45 (by kernel_rfl) rfl #[.agg #[.int .i64 ((rd_T44 l0 x3_1).f0), .int .i64 ((rd_T44 l0 x3_1).f1), .bool ((rd_T44 l0 x3_1).f2)]] rfl (by (try simp only [List.map_toArray, List.map_cons, List.map_nil]); first | done | rfl | (simp only [List.length_drop, List.length_take]; rfl)) ?_; (with_reducible refine (papermillref13_good.calls k1 ((rd_T44 l0 x3_1).f0) ((rd_T44 l0 x3_1).f1) ((rd_T44 l0 x3_1).f2) true _ A5.out).mono ?_); rintro e w7 ⟨rfl, hb⟩; refine ⟨_, rfl, ?_⟩; have n0_ := Aside0.mk (below_step (by repeat (first | exact HB.out | apply below_alloc | apply pw_below_drewN | apply below_drew1)) hb); clear HB; have HB := n0_; clear n0_; (try clear hb); (try clear hb2); (try clear hk); (try clear hi)))
       go_roundg k1
       case measure => have := HK1.out; omega
       case rel => exact ⟨(wrap64 (x3_1 + 1)), (by first | rfl | (simp; done) | (simp [*]; done)), H', ⟨by have := HK1.out; omega⟩, ⟨by repeat (first | exact HB.out | apply below_alloc | apply pw_below_drewN | apply below_drew1)⟩⟩
      ·replace c6 := Bool.eq_false_iff.mpr c6
       subst c6
       have H1 : (some 1) = some r := by rw [if_neg (show ¬ (false = true) by decide)] at H; first | exact H | simpa using H
       clear H
       have H := H1
       clear H1
       obtain rfl := Option.some.inj H
       have p26001 : 0 ≤ (x3_1 : Int) := of_decide_eq_true (by assumption)
       have q26001 : x3_1 < (l0.length : Int) := of_decide_eq_true (by assumption)
       obtain ⟨ad26001, e26001, hx26001_0, hx26001_1, hx26001_2⟩ := at_T44 HR0.out x3_1 p26001 q26001
       cases e26001
       replace hx26001_0 := (HB.out.cell (World.block_lt_of_cell? w _ hx26001_0)).trans hx26001_0
       replace hx26001_1 := (HB.out.cell (World.block_lt_of_cell? w _ hx26001_1)).trans hx26001_1
       replace hx26001_2 := (HB.out.cell (World.block_lt_of_cell? w _ hx26001_2)).trans hx26001_2
       replace p26001 := eq_true p26001
       replace q26001 := eq_true q26001
       go_wp2_with (first | ((with_reducible refine gate_callee (f := 45) rfl ?_); refine goesL_ (some 17) rfl rfl Try.func45 (by kernel_rfl) rfl #[.agg #[.int .i64 ((rd_T44 l0 x3_1).f0), .int .i64 ((rd_T44 l0 x3_1).f1), .bool ((rd_T44 l0 x3_1).f2)]] rfl (by (try simp only [List.map_toArray, List.map_cons, List.map_nil]); first | done | rfl | (simp only [List.length_drop, List.length_take]; rfl)) ?_; (with_reducible refine (papermillref13_good.calls k1 ((rd_T44 l0 x3_1).f0) ((rd_T44 l0 x3_1).f1) ((rd_T44 l0 x3_1).f2) false _ A5.out).mono ?_); rintro e w8 ⟨rfl, hb⟩; refine ⟨_, rfl, ?_⟩; have n0_ := Aside0.mk (below_step (by repeat (first | exact HB.out | apply below_alloc | apply pw_below_drewN | apply below_drew1)) hb); clear HB; have HB := n0_; clear n0_; (try clear hb); (try clear hb2); (try clear hk); (try clear hi)))
       go_ret
       exact ⟨by first | rfl | (simp [errW_none, errW_some] <;> rfl) | (simp [*, errW_none, errW_some] <;> rfl), by repeat (first | exact HB.out | apply below_alloc | apply pw_below_drewN | apply below_drew1)⟩
     ·rw [if_neg c4] at H
      exact absurd H (by simp)
    ·rw [if_neg c3] at H
     have c3b0 : decide (x3_1 < (l0.length : Int)) = false := decide_eq_false c3
     clear c3
     replace H := Option.bind_eq_some_iff.mp H
     obtain ⟨t26003, A90, H⟩ := H
     replace H : (if t26003 > 17179869184 then (some 21) else (some 0)) = some r := H
     have A9 := Aside0.mk A90
     clear A90
     by_cases c10 : t26003 > 17179869184
     ·rw [if_pos c10] at H
      have c10b0 : decide (17179869184 < t26003) = true := decide_eq_true c10
      clear c10
      obtain rfl := Option.some.inj H
      go_wp2_with (first | ((with_reducible refine gate_callee (f := 46) rfl ?_); refine goesL_ (some 20) rfl rfl Try.func46 (by kernel_rfl) rfl #[.slice A0 l0.length c0] rfl (by (try simp only [List.map_toArray, List.map_cons, List.map_nil]); first | done | rfl | (simp only [List.length_drop, List.length_take]; rfl)) ?_; (with_reducible refine (papermillref13_length.calls k1 _ _ l0 t26003 _ ?side1 ?side2 A9.out).mono ?_); (case side1 => exact (Kd.C_below HR0.out HB.out)); (case side2 => exact HC0.out); rintro e w' ⟨rfl, ⟨nd, rfl⟩⟩; refine ⟨_, rfl, ?_⟩))
      go_ret
      exact ⟨by first | rfl | (simp [errW_none, errW_some] <;> rfl) | (simp [*, errW_none, errW_some] <;> rfl), by repeat (first | exact HB.out | apply below_alloc | apply pw_below_drewN | apply below_drew1)⟩
     ·rw [if_neg c10] at H
      have c10b0 : decide (17179869184 < t26003) = false := decide_eq_false c10
      clear c10
      obtain rfl := Option.some.inj H
      go_wp2_with (first | ((with_reducible refine gate_callee (f := 46) rfl ?_); refine goesL_ (some 20) rfl rfl Try.func46 (by kernel_rfl) rfl #[.slice A0 l0.length c0] rfl (by (try simp only [List.map_toArray, List.map_cons, List.map_nil]); first | done | rfl | (simp only [List.length_drop, List.length_take]; rfl)) ?_; (with_reducible refine (papermillref13_length.calls k1 _ _ l0 t26003 _ ?side1 ?side2 A9.out).mono ?_); (case side1 => exact (Kd.C_below HR0.out HB.out)); (case side2 => exact HC0.out); rintro e w' ⟨rfl, ⟨nd, rfl⟩⟩; refine ⟨_, rfl, ?_⟩))
      go_ret
      exact ⟨by first | rfl | (simp [errW_none, errW_some] <;> rfl) | (simp [*, errW_none, errW_some] <;> rfl), by repeat (first | exact HB.out | apply below_alloc | apply pw_below_drewN | apply below_drew1)⟩

end Go.Proofs.Ytalpegglbfobiaa.G

namespace Go.Proofs.Ytalpegglbfobiaa.G
open Go.RowKit Go.Proofs.YtalpegglbfobiaaW.PrintWords Go.Proofs.YtalpegglbfobiaaW.PrintLast Go.Proofs.YtalpegglbfobiaaW.PrintMore
attribute [local go_sem] max2_int min2_int max_two min_two max_three min_three max_four min_four   -- for this text's walks alone
set_option linter.unusedVariables false
set_option linter.unusedSimpArgs false

def papermillref13_image.f (a0_0 : Int) (a0_1 : Int) (a0_2 : Bool) (a1 : Int) : Option (Int) := if a0_2 = true then (some (wrap64 (a0_0 - a1))) else (some (wrap64 (a0_0 + a1)))
set_option maxHeartbeats 8000000 in
set_option maxRecDepth 100000 in
theorem papermillref13_image.calls (a0_0 : Int) (a0_1 : Int) (a0_2 : Bool) (a1 : Int) (r : Int) (w : World) (h : papermillref13_image.f a0_0 a0_1 a0_2 a1 = some r) :
  Calls Try.prog 48 #[.agg #[.int .i64 a0_0, .int .i64 a0_1, .bool a0_2], .int .i64 a1] w fun e w' => e = .returned (.int .i64 r) ∧ Below w.heap.size w w' := by
 have hu44 := Try.underlying44
 have HB := Aside0.mk (Below.refl w.heap.size w)
 have H : (if a0_2 = true then (some (wrap64 (a0_0 - a1))) else (some (wrap64 (a0_0 + a1)))) = some r := h
 clear h
 by_cases c3 : a0_2 = true
 ·subst c3
  have H1 : (some (wrap64 (a0_0 - a1))) = some r := by rw [if_pos rfl] at H; exact H
  clear H
  have H := H1
  clear H1
  obtain rfl := Option.some.inj H
  go_enter Try.func48, Try.ntmps48
  go_wp2_with (first | ((with_reducible refine gate_dst (N := 2) rfl ?_); refine box_event ?hg (N := 2) ?hd (cs := #[.int .i64 a0_0, .int .i64 a0_1, .bool true]) (t := 44) ?hr ?_; (case hd => rfl); (case hg => rfl); (case hr => first | (go_simp; done) | (go_simp; rfl)); intro gb49001 hg w4 hbox hb; have n0_ := Aside0.mk (below_step (by repeat (first | exact HB.out | apply below_alloc | apply pw_below_drewN | apply below_drew1)) hb); have n1_ := Aside0.mk (hbox); have n2_ := Aside0.mk ((by rw [hg]; exact (below_size (by repeat (first | exact HB.out | apply below_alloc | apply pw_below_drewN | apply below_drew1))) : w.heap.size ≤ gb49001)); have n3_ := Aside0.mk ((by rw [hg]; exact (below_size (by repeat (first | exact HB.out | apply below_alloc | apply pw_below_drewN | apply below_drew1))) : w.heap.size ≤ gb49001)); clear HB; have HB := n0_; have BK49001 := n1_; have GW49001 := n2_; have GE49001 := n3_; clear n0_ n1_ n2_ n3_; clear hb hbox hg; have hcz5_0 : w4.cell? ⟨gb49001, 0, none⟩ = some (.int .i64 a0_0) := (blk_cell BK49001.out 0).trans rfl; have hcz5_1 : w4.cell? ⟨gb49001, 1, none⟩ = some (.int .i64 a0_1) := (blk_cell BK49001.out 1).trans rfl; have hcz5_2 : w4.cell? ⟨gb49001, 2, none⟩ = some (.bool true) := (blk_cell BK49001.out 2).trans rfl; have hfz5_0 := blk_frozen BK49001.out 0; have hfz5_1 := blk_frozen BK49001.out 1; have hfz5_2 := blk_frozen BK49001.out 2))
  go_ret
  exact ⟨by first | rfl | (simp [errW_none, errW_some] <;> rfl) | (simp [*, errW_none, errW_some] <;> rfl), by repeat (first | exact HB.out | apply below_alloc | apply pw_below_drewN | apply below_drew1 | refine below_set ?_ GE49001.out)⟩
 ·replace c3 := Bool.eq_false_iff.mpr c3
  subst c3
  have H1 : (some (wrap64 (a0_0 + a1))) = some r := by rw [if_neg (show ¬ (false = true) by decide)] at H; first | exact H | simpa using H
  clear H
  have H := H1
  clear H1
  obtain rfl := Option.some.inj H
  go_enter Try.func48, Try.ntmps48
  go_wp2_with (first | ((with_reducible refine gate_dst (N := 2) rfl ?_); refine box_event ?hg (N := 2) ?hd (cs := #[.int .i64 a0_0, .int .i64 a0_1, .bool false]) (t := 44) ?hr ?_; (case hd => rfl); (case hg => rfl); (case hr => first | (go_simp; done) | (go_simp; rfl)); intro gb49001 hg w6 hbox hb; have n0_ := Aside0.mk (below_step (by repeat (first | exact HB.out | apply below_alloc | apply pw_below_drewN | apply below_drew1)) hb); have n1_ := Aside0.mk (hbox); have n2_ := Aside0.mk ((by rw [hg]; exact (below_size (by repeat (first | exact HB.out | apply below_alloc | apply pw_below_drewN | apply below_drew1))) : w.heap.size ≤ gb49001)); have n3_ := Aside0.mk ((by rw [hg]; exact (below_size (by repeat (first | exact HB.out | apply below_alloc | apply pw_below_drewN | apply below_drew1))) : w.heap.size ≤ gb49001)); clear HB; have HB := n0_; have BK49001 := n1_; have GW49001 := n2_; have GE49001 := n3_; clear n0_ n1_ n2_ n3_; clear hb hbox hg; have hcz7_0 : w6.cell? ⟨gb49001, 0, none⟩ = some (.int .i64 a0_0) := (blk_cell BK49001.out 0).trans rfl; have hcz7_1 : w6.cell? ⟨gb49001, 1, none⟩ = some (.int .i64 a0_1) := (blk_cell BK49001.out 1).trans rfl; have hcz7_2 : w6.cell? ⟨gb49001, 2, none⟩ = some (.bool false) := (blk_cell BK49001.out 2).trans rfl; have hfz7_0 := blk_frozen BK49001.out 0; have hfz7_1 := blk_frozen BK49001.out 1; have hfz7_2 := blk_frozen BK49001.out 2))
  go_ret
  exact ⟨by first | rfl | (simp [errW_none, errW_some] <;> rfl) | (simp [*, errW_none, errW_some] <;> rfl), by repeat (first | exact HB.out | apply below_alloc | apply pw_below_drewN | apply below_drew1 | refine below_set ?_ GE49001.out)⟩

end Go.Proofs.Ytalpegglbfobiaa.G

namespace Go.Proofs.Ytalpegglbfobiaa.G
open Go.RowKit Go.Proofs.YtalpegglbfobiaaW.PrintWords Go.Proofs.YtalpegglbfobiaaW.PrintLast Go.Proofs.YtalpegglbfobiaaW.PrintMore
attribute [local go_sem] max2_int min2_int max_two min_two max_three min_three max_four min_four   -- for this text's walks alone
set_option linter.unusedVariables false
set_option linter.unusedSimpArgs false

def papermillref13_cut.f (a0_0 : Int) (a0_1 : Int) (a0_2 : Bool) (a1 : Int) (a2 : Int) : Option (Int × Int × Bool) := (papermillref13_image.f a0_0 a0_1 a0_2 a1).bind fun t73003 => (if a0_2 = true then (some (t73003, a2, decide (a2 > 1))) else (some (t73003, a2, false)))
def papermillref13_cut.T1 : Bool × List (List Nat × List Nat) := (true, [([], []), ([], []), ([0, 1], [0, 1]), ([], []), ([], []), ([4], [4]), ([5, 2], [5]), ([6], [6]), ([7, 6], [6, 7]), ([6, 8], [6, 8]), ([2, 3, 9], [2, 3, 9]), ([10, 6, 0, 1, 2, 3, 4, 5, 6, 7, 8, 9, 10], [10])])
def papermillref13_cut.B1 : List Nat := [0, 0, 3, 0, 0, 16, 55, 119, 247, 503, 1023, 2047]
theorem papermillref13_cut.tab1 : rtab .any (opsOf Try.f72 1) = papermillref13_cut.T1 := by kernel_rfl
theorem papermillref13_cut.bits1 : waitsOk papermillref13_cut.T1.2 papermillref13_cut.B1 = true := by kernel_rfl
set_option maxHeartbeats 8000000 in
set_option maxRecDepth 100000 in
theorem papermillref13_cut.calls (a0_0 : Int) (a0_1 : Int) (a0_2 : Bool) (a1 : Int) (a2 : Int) (r1 : Int) (r2 : Int) (r3 : Bool) (w : World) (h : papermillref13_cut.f a0_0 a0_1 a0_2 a1 a2 = some (r1, r2, r3)) :
  Calls Try.prog 72 #[.agg #[.int .i64 a0_0, .int .i64 a0_1, .bool a0_2], .int .i64 a1, .int .i64 a2] w fun e w' => e = .returned (.agg #[.int .i64 r1, .int .i64 r2, .bool r3]) ∧ Below w.heap.size w w' := by
 have hu44 := Try.underlying44
 have HB := Aside0.mk (Below.refl w.heap.size w)
 have H : ((papermillref13_image.f a0_0 a0_1 a0_2 a1).bind fun t73003 => (if a0_2 = true then (some (t73003, a2, decide (a2 > 1))) else (some (t73003, a2, false)))) = some (r1, r2, r3) := h
 clear h
 replace H := Option.bind_eq_some_iff.mp H
 obtain ⟨t73003, A40, H⟩ := H
 replace H : (if a0_2 = true then (some (t73003, a2, decide (a2 > 1))) else (some (t73003, a2, false))) = some (r1, r2, r3) := H
 have A4 := Aside0.mk A40
 clear A40
 by_cases c5 : a0_2 = true
 ·subst c5
  have H1 : (some (t73003, a2, decide (a2 > 1))) = some (r1, r2, r3) := by rw [if_pos rfl] at H; exact H
  clear H
  have H := H1
  clear H1
  simp only [Option.some.injEq, Prod.mk.injEq] at H
  obtain ⟨rfl, rfl, rfl⟩ := H
  go_enter Try.func72, Try.ntmps72
  try go_wp2_with (first | ((with_reducible refine gate_dst (N := 3) rfl ?_); refine box_event ?hg (N := 3) ?hd (cs := #[.int .i64 a0_0, .int .i64 a0_1, .bool true]) (t := 44) ?hr ?_; (case hd => rfl); (case hg => rfl); (case hr => first | (go_simp; done) | (go_simp; rfl)); intro gb73001 hg w6 hbox hb; have n0_ := Aside0.mk (below_step (by repeat (first | exact HB.out | apply below_alloc | apply pw_below_drewN | apply below_drew1)) hb); have n1_ := Aside0.mk (hbox); have n2_ := Aside0.mk ((by rw [hg]; exact (below_size (by repeat (first | exact HB.out | apply below_alloc | apply pw_below_drewN | apply below_drew1))) : w.heap.size ≤ gb73001)); have n3_ := Aside0.mk ((by rw [hg]; exact (below_size (by repeat (first | exact HB.out | apply below_alloc | apply pw_below_drewN | apply below_drew1))) : w.heap.size ≤ gb73001)); clear HB; have HB := n0_; have BK73001 := n1_; have GW73001 := n2_; have GE73001 := n3_; clear n0_ n1_ n2_ n3_; clear hb hbox hg) | ((with_reducible refine gate_dst (N := 6) rfl ?_); refine box_event ?hg (N := 6) ?hd (cs := #[.int .i64 0, .int .i64 0, .bool false]) (t := 44) ?hr ?_; (case hd => rfl); (case hg => rfl); (case hr => first | (go_simp; done) | (go_simp; rfl)); intro gb73002 hg w7 hbox hb; have n0_ := Aside0.mk (blk_below (g := gb73001) (o := .cells #[.int .i64 a0_0, .int .i64 a0_1, .bool true] 44 (0, 0)) (BK73001.out) hb); have n1_ := Aside0.mk (below_step (by repeat (first | exact HB.out | apply below_alloc | apply pw_below_drewN | apply below_drew1 | refine below_set ?_ GE73001.out)) hb); have n2_ := Aside0.mk (hbox); have n3_ := Aside0.mk ((by rw [hg]; exact (below_size (by repeat (first | exact HB.out | apply below_alloc | apply pw_below_drewN | apply below_drew1 | refine below_set ?_ GE73001.out))) : w.heap.size ≤ gb73002)); have n4_ := Aside0.mk ((by rw [hg]; exact (below_size (by repeat (first | exact HB.out | apply below_alloc | apply pw_below_drewN | apply below_drew1 | refine below_set ?_ GE73001.out))) : w.heap.size ≤ gb73002)); have n5_ := Aside0.mk ((by rw [hg]; exact Nat.ne_of_lt (blk_lt (g := gb73001) (o := .cells #[.int .i64 a0_0, .int .i64 a0_1, .bool true] 44 (0, 0)) (BK73001.out)) : gb73001 ≠ gb73002)); have n6_ := Aside0.mk ((by rw [hg]; exact Nat.ne_of_gt (blk_lt (g := gb73001) (o := .cells #[.int .i64 a0_0, .int .i64 a0_1, .bool true] 44 (0, 0)) (BK73001.out)) : gb73002 ≠ gb73001)); clear BK73001; clear HB; have BK73001 := n0_; have HB := n1_; have BK73002 := n2_; have GW73002 := n3_; have GE73002 := n4_; have NB73001_73002 := n5_; have NB73002_73001 := n6_; clear n0_ n1_ n2_ n3_ n4_ n5_ n6_; clear hb hbox hg))
  have n0_ := Aside0.mk (blk_drew BK73001.out)
  have n1_ := Aside0.mk (blk_drew BK73002.out)
  have n2_ := Aside0.mk (below_drew1 HB.out)
  clear BK73001
  clear BK73002
  clear HB
  have BK73001 := n0_
  have BK73002 := n1_
  have HB := n2_
  clear n0_ n1_ n2_
  refine start_ (n := 12) (S := fun w' => w'.cell? ⟨gb73001, 0, none⟩ = some (.int .i64 a0_0) ∧ w'.cell? ⟨gb73001, 1, none⟩ = some (.int .i64 a0_1) ∧ w'.cell? ⟨gb73001, 2, none⟩ = some (.bool true)) (ds := []) #[false, false, false, false, false, false, false, false, false, false, false, false] (by kernel_rfl) rfl rfl ⟨(blk_cell BK73001.out 0).trans rfl, (blk_cell BK73001.out 1).trans rfl, (blk_cell BK73001.out 2).trans rfl⟩ (fun hHeld => ?_); refine with_tabW papermillref13_cut.tab1 papermillref13_cut.bits1 (fun HT_ HW_ => ?_)
  generalize w7.drew = w8 at BK73001 BK73002 HB hHeld ⊢
  refine pure_ (i := 1) (N := some 8) (v := ?_) (a' := ?_) #[false, true, false, false, false, false, false, false, false, false, false, false] rfl rfl (any_of HT_.out (by kernel_rfl)) (fun _ _ _ h => h) (Or.inl ⟨by rfl, ?_⟩) ?_ ?_
  rotate_left
  ·intro w'
   go_simp
   with_reducible rfl
  rotate_left
  ·simp only [Act.put, List.setIfInBounds_toArray, List.set_cons_zero, List.set_cons_succ, i64_w, i32_w]
   rfl
  refine pure_ (i := 3) (N := some 10) (v := ?_) (a' := ?_) #[false, true, false, true, false, false, false, false, false, false, false, false] rfl rfl (any_of HT_.out (by kernel_rfl)) (fun _ _ _ h => h) (Or.inl ⟨by rfl, ?_⟩) ?_ ?_
  rotate_left
  ·intro w'
   go_simp
   with_reducible rfl
  rotate_left
  ·simp only [Act.put, List.setIfInBounds_toArray, List.set_cons_zero, List.set_cons_succ, i64_w, i32_w]
   rfl
  refine pure_ (i := 4) (N := some 11) (v := ?_) (a' := ?_) #[false, true, false, true, true, false, false, false, false, false, false, false] rfl rfl (any_of HT_.out (by kernel_rfl)) (fun _ _ _ h => h) (Or.inl ⟨by rfl, ?_⟩) ?_ ?_
  rotate_left
  ·intro w'
   go_simp
   with_reducible rfl
  rotate_left
  ·simp only [Act.put, List.setIfInBounds_toArray, List.set_cons_zero, List.set_cons_succ, i64_w, i32_w]
   rfl
  refine take_ (i := 0) (N := some 7) (v := ?_) (a' := ?_) #[true, true, false, true, true, false, false, false, false, false, false, false] rfl rfl (take_ofW HT_.out HW_.out (by kernel_rfl)) (fun _ _ _ h => h) (Or.inl ⟨by rfl, ?_⟩) hHeld ?_ ?_
  rotate_left
  ·rintro w' ⟨s0, s1, s2⟩
   go_simp
   with_reducible rfl
  rotate_left
  ·simp only [Act.put, List.setIfInBounds_toArray, List.set_cons_zero, List.set_cons_succ, i64_w, i32_w]
   rfl
  refine take_ (i := 5) (N := some 12) (v := ?_) (a' := ?_) #[true, true, false, true, true, true, false, false, false, false, false, false] rfl rfl (take_ofW HT_.out HW_.out (by kernel_rfl)) (fun _ _ _ h => h) (Or.inl ⟨by rfl, ?_⟩) hHeld ?_ ?_
  rotate_left
  ·rintro w' ⟨s0, s1, s2⟩
   go_simp
   with_reducible rfl
  rotate_left
  ·simp only [Act.put, List.setIfInBounds_toArray, List.set_cons_zero, List.set_cons_succ, i64_w, i32_w]
   rfl
  refine one_ (i := 2) (N := some 9) #[true, true, true, true, true, true, false, false, false, false, false, false] rfl rfl (one_of HT_.out (by kernel_rfl)) (by decide) (fun K hK => ?_)
  refine goes_ Try.func48 (by kernel_rfl) rfl #[.agg #[.int .i64 a0_0, .int .i64 a0_1, .bool true], .int .i64 a1] (by rfl) rfl rfl (by (try simp only [List.map_toArray, List.map_cons, List.map_nil]); first | done | rfl | (simp only [List.length_drop, List.length_take]; rfl)) ?_
  with_reducible refine (papermillref13_image.calls a0_0 a0_1 true a1 t73003 _ A4.out).mono ?_
  rintro e w9 ⟨rfl, hb⟩
  refine ⟨_, rfl, ?_⟩
  have n0_ := Aside0.mk (blk_below (g := gb73001) (o := .cells #[.int .i64 a0_0, .int .i64 a0_1, .bool true] 44 (0, 0)) (BK73001.out) hb)
  have n1_ := Aside0.mk (blk_below (g := gb73002) (o := .cells #[.int .i64 0, .int .i64 0, .bool false] 44 (0, 0)) (BK73002.out) hb)
  have n2_ := Aside0.mk (below_step (by repeat (first | exact HB.out | apply below_alloc | apply pw_below_drewN | apply below_drew1 | refine below_set ?_ GE73001.out | refine below_set ?_ GE73002.out)) hb)
  clear BK73001
  clear BK73002
  clear HB
  have BK73001 := n0_
  have BK73002 := n1_
  have HB := n2_
  clear n0_ n1_ n2_
  (try clear hb)
  (try clear hb2)
  (try clear hk)
  (try clear hi)
  refine hK.out _ _ ⟨(blk_cell BK73001.out 0).trans rfl, (blk_cell BK73001.out 1).trans rfl, (blk_cell BK73001.out 2).trans rfl⟩ (fun hHeld => ?_)
  clear hK K
  refine norm_ (a' := ?_) ?_ ?_
  rotate_left
  ·show Act.put _ (some 9) _ = _
   simp only [Act.put, List.setIfInBounds_toArray, List.set_cons_zero, List.set_cons_succ, i64_w, i32_w]
   rfl
  refine pure_ (i := 6) (N := some 13) (v := ?_) (a' := ?_) #[true, true, true, true, true, true, true, false, false, false, false, false] rfl rfl (any_of HT_.out (by kernel_rfl)) (fun _ _ _ h => h) (Or.inl ⟨by rfl, ?_⟩) ?_ ?_
  rotate_left
  ·intro w'
   go_simp
   with_reducible rfl
  rotate_left
  ·simp only [Act.put, List.setIfInBounds_toArray, List.set_cons_zero, List.set_cons_succ, i64_w, i32_w]
   rfl
  refine pure_ (i := 7) (N := some 14) (v := ?_) (a' := ?_) #[true, true, true, true, true, true, true, true, false, false, false, false] rfl rfl (any_of HT_.out (by kernel_rfl)) (fun _ _ _ h => h) (Or.inl ⟨by rfl, ?_⟩) ?_ ?_
  rotate_left
  ·intro w'
   go_simp
   with_reducible rfl
  rotate_left
  ·simp only [Act.put, List.setIfInBounds_toArray, List.set_cons_zero, List.set_cons_succ, i64_w, i32_w]
   rfl
  refine pure_ (i := 8) (N := some 15) (v := ?_) (a' := ?_) #[true, true, true, true, true, true, true, true, true, false, false, false] rfl rfl (any_of HT_.out (by kernel_rfl)) (fun _ _ _ h => h) (Or.inl ⟨by rfl, ?_⟩) ?_ ?_
  rotate_left
  ·intro w'
   go_simp
   with_reducible rfl
  rotate_left
  ·simp only [Act.put, List.setIfInBounds_toArray, List.set_cons_zero, List.set_cons_succ, i64_w, i32_w]
   rfl
  refine pure_ (i := 9) (N := some 16) (v := ?_) (a' := ?_) #[true, true, true, true, true, true, true, true, true, true, false, false] rfl rfl (any_of HT_.out (by kernel_rfl)) (fun _ _ _ h => h) (Or.inl ⟨by rfl, ?_⟩) ?_ ?_
  rotate_left
  ·intro w'
   go_simp
   with_reducible rfl
  rotate_left
  ·simp only [Act.put, List.setIfInBounds_toArray, List.set_cons_zero, List.set_cons_succ, i64_w, i32_w]
   rfl
  refine pure_ (i := 10) (N := some 17) (v := ?_) (a' := ?_) #[true, true, true, true, true, true, true, true, true, true, true, false] rfl rfl (any_of HT_.out (by kernel_rfl)) (fun _ _ _ h => h) (Or.inl ⟨by rfl, ?_⟩) ?_ ?_
  rotate_left
  ·intro w'
   go_simp
   with_reducible rfl
  rotate_left
  ·simp only [Act.put, List.setIfInBounds_toArray, List.set_cons_zero, List.set_cons_succ, i64_w, i32_w]
   rfl
  refine one_ (i := 11) (N := none) #[true, true, true, true, true, true, true, true, true, true, true, true] rfl rfl (one_of HT_.out (by kernel_rfl)) (by decide) (fun K hK => ?_)
  have hs10 : w9.cell? ⟨gb73002, 0, none⟩ = some (.int .i64 0) := (blk_cell BK73002.out 0).trans rfl
  have hfs10 := blk_frozen BK73002.out 0
  have hns10_0 := NB73001_73002.out
  have hms10_0 := NB73002_73001.out
  have hs11 : w9.cell? ⟨gb73002, 1, none⟩ = some (.int .i64 0) := (blk_cell BK73002.out 1).trans rfl
  have hfs11 := blk_frozen BK73002.out 1
  have hns11_0 := NB73001_73002.out
  have hms11_0 := NB73002_73001.out
  have hs12 : w9.cell? ⟨gb73002, 2, none⟩ = some (.bool false) := (blk_cell BK73002.out 2).trans rfl
  have hfs12 := blk_frozen BK73002.out 2
  have hns12_0 := NB73001_73002.out
  have hms12_0 := NB73002_73001.out
  refine skip_ (w1 := ?_) (by rfl) rfl ?_ ?_
  rotate_left
  ·go_simp
   rfl
  refine hK.out _ _ ⟨((cell_far (p := ⟨gb73002, _, none⟩) NB73001_73002.out _).trans (((cell_far (p := ⟨gb73002, _, none⟩) NB73001_73002.out _).trans (((cell_far (p := ⟨gb73002, _, none⟩) NB73001_73002.out _).trans (hHeld.1)))))), ((cell_far (p := ⟨gb73002, _, none⟩) NB73001_73002.out _).trans (((cell_far (p := ⟨gb73002, _, none⟩) NB73001_73002.out _).trans (((cell_far (p := ⟨gb73002, _, none⟩) NB73001_73002.out _).trans (hHeld.2.1)))))), ((cell_far (p := ⟨gb73002, _, none⟩) NB73001_73002.out _).trans (((cell_far (p := ⟨gb73002, _, none⟩) NB73001_73002.out _).trans (((cell_far (p := ⟨gb73002, _, none⟩) NB73001_73002.out _).trans (hHeld.2.2))))))⟩ (fun hHeld => ?_)
  clear hK K
  refine done_ (done_of HT_.out (by kernel_rfl)) ?_
  try go_wp2
  refine bodyPost_ret (results_cell_row rfl _ _ gb73002 44 #[.int .i64 t73003, .int .i64 a2, .bool (decide (a2 > 1))] (0, 0) _ rfl (by refine blk_put (cs := #[.int .i64 t73003, .int .i64 a2, .bool false]) ?_ 2 _ rfl; refine blk_put (cs := #[.int .i64 t73003, .int .i64 0, .bool false]) ?_ 1 _ rfl; refine blk_put (cs := #[.int .i64 0, .int .i64 0, .bool false]) ?_ 0 _ rfl; exact BK73002.out) Try.underlying44 rfl (by kernel_rfl)) rfl ?_
  exact ⟨by first | rfl | (simp [errW_none, errW_some] <;> rfl) | (simp [*, errW_none, errW_some] <;> rfl), by repeat (first | exact HB.out | apply below_alloc | apply pw_below_drewN | apply below_drew1 | refine below_set ?_ GE73001.out | refine below_set ?_ GE73002.out)⟩
 ·replace c5 := Bool.eq_false_iff.mpr c5
  subst c5
  have H1 : (some (t73003, a2, false)) = some (r1, r2, r3) := by rw [if_neg (show ¬ (false = true) by decide)] at H; first | exact H | simpa using H
  clear H
  have H := H1
  clear H1
  simp only [Option.some.injEq, Prod.mk.injEq] at H
  obtain ⟨rfl, rfl, rfl⟩ := H
  go_enter Try.func72, Try.ntmps72
  try go_wp2_with (first | ((with_reducible refine gate_dst (N := 3) rfl ?_); refine box_event ?hg (N := 3) ?hd (cs := #[.int .i64 a0_0, .int .i64 a0_1, .bool false]) (t := 44) ?hr ?_; (case hd => rfl); (case hg => rfl); (case hr => first | (go_simp; done) | (go_simp; rfl)); intro gb73001 hg w13 hbox hb; have n0_ := Aside0.mk (below_step (by repeat (first | exact HB.out | apply below_alloc | apply pw_below_drewN | apply below_drew1)) hb); have n1_ := Aside0.mk (hbox); have n2_ := Aside0.mk ((by rw [hg]; exact (below_size (by repeat (first | exact HB.out | apply below_alloc | apply pw_below_drewN | apply below_drew1))) : w.heap.size ≤ gb73001)); have n3_ := Aside0.mk ((by rw [hg]; exact (below_size (by repeat (first | exact HB.out | apply below_alloc | apply pw_below_drewN | apply below_drew1))) : w.heap.size ≤ gb73001)); clear HB; have HB := n0_; have BK73001 := n1_; have GW73001 := n2_; have GE73001 := n3_; clear n0_ n1_ n2_ n3_; clear hb hbox hg) | ((with_reducible refine gate_dst (N := 6) rfl ?_); refine box_event ?hg (N := 6) ?hd (cs := #[.int .i64 0, .int .i64 0, .bool false]) (t := 44) ?hr ?_; (case hd => rfl); (case hg => rfl); (case hr => first | (go_simp; done) | (go_simp; rfl)); intro gb73002 hg w14 hbox hb; have n0_ := Aside0.mk (blk_below (g := gb73001) (o := .cells #[.int .i64 a0_0, .int .i64 a0_1, .bool false] 44 (0, 0)) (BK73001.out) hb); have n1_ := Aside0.mk (below_step (by repeat (first | exact HB.out | apply below_alloc | apply pw_below_drewN | apply below_drew1 | refine below_set ?_ GE73001.out)) hb); have n2_ := Aside0.mk (hbox); have n3_ := Aside0.mk ((by rw [hg]; exact (below_size (by repeat (first | exact HB.out | apply below_alloc | apply pw_below_drewN | apply below_drew1 | refine below_set ?_ GE73001.out))) : w.heap.size ≤ gb73002)); have n4_ := Aside0.mk ((by rw [hg]; exact (below_size (by repeat (first | exact HB.out | apply below_alloc | apply pw_below_drewN | apply below_drew1 | refine below_set ?_ GE73001.out))) : w.heap.size ≤ gb73002)); have n5_ := Aside0.mk ((by rw [hg]; exact Nat.ne_of_lt (blk_lt (g := gb73001) (o := .cells #[.int .i64 a0_0, .int .i64 a0_1, .bool false] 44 (0, 0)) (BK73001.out)) : gb73001 ≠ gb73002)); have n6_ := Aside0.mk ((by rw [hg]; exact Nat.ne_of_gt (blk_lt (g := gb73001) (o := .cells #[.int .i64 a0_0, .int .i64 a0_1, .bool false] 44 (0, 0)) (BK73001.out)) : gb73002 ≠ gb73001)); clear BK73001; clear HB; have BK73001 := n0_; have HB := n1_; have BK73002 := n2_; have GW73002 := n3_; have GE73002 := n4_; have NB73001_73002 := n5_; have NB73002_73001 := n6_; clear n0_ n1_ n2_ n3_ n4_ n5_ n6_; clear hb hbox hg))
  have n0_ := Aside0.mk (blk_drew BK73001.out)
  have n1_ := Aside0.mk (blk_drew BK73002.out)
  have n2_ := Aside0.mk (below_drew1 HB.out)
  clear BK73001
  clear BK73002
  clear HB
  have BK73001 := n0_
  have BK73002 := n1_
  have HB := n2_
  clear n0_ n1_ n2_
  refine start_ (n := 12) (S := fun w' => w'.cell? ⟨gb73001, 0, none⟩ = some (.int .i64 a0_0) ∧ w'.cell? ⟨gb73001, 1, none⟩ = some (.int .i64 a0_1) ∧ w'.cell? ⟨gb73001, 2, none⟩ = some (.bool false)) (ds := []) #[false, false, false, false, false, false, false, false, false, false, false, false] (by kernel_rfl) rfl rfl ⟨(blk_cell BK73001.out 0).trans rfl, (blk_cell BK73001.out 1).trans rfl, (blk_cell BK73001.out 2).trans rfl⟩ (fun hHeld => ?_); refine with_tabW papermillref13_cut.tab1 papermillref13_cut.bits1 (fun HT_ HW_ => ?_)
  generalize w14.drew = w15 at BK73001 BK73002 HB hHeld ⊢
  refine pure_ (i := 1) (N := some 8) (v := ?_) (a' := ?_) #[false, true, false, false, false, false, false, false, false, false, false, false] rfl rfl (any_of HT_.out (by kernel_rfl)) (fun _ _ _ h => h) (Or.inl ⟨by rfl, ?_⟩) ?_ ?_
  rotate_left
  ·intro w'
   go_simp
   with_reducible rfl
  rotate_left
  ·simp only [Act.put, List.setIfInBounds_toArray, List.set_cons_zero, List.set_cons_succ, i64_w, i32_w]
   rfl
  refine pure_ (i := 3) (N := some 10) (v := ?_) (a' := ?_) #[false, true, false, true, false, false, false, false, false, false, false, false] rfl rfl (any_of HT_.out (by kernel_rfl)) (fun _ _ _ h => h) (Or.inl ⟨by rfl, ?_⟩) ?_ ?_
  rotate_left
  ·intro w'
   go_simp
   with_reducible rfl
  rotate_left
  ·simp only [Act.put, List.setIfInBounds_toArray, List.set_cons_zero, List.set_cons_succ, i64_w, i32_w]
   rfl
  refine pure_ (i := 4) (N := some 11) (v := ?_) (a' := ?_) #[false, true, false, true, true, false, false, false, false, false, false, false] rfl rfl (any_of HT_.out (by kernel_rfl)) (fun _ _ _ h => h) (Or.inl ⟨by rfl, ?_⟩) ?_ ?_
  rotate_left
  ·intro w'
   go_simp
   with_reducible rfl
  rotate_left
  ·simp only [Act.put, List.setIfInBounds_toArray, List.set_cons_zero, List.set_cons_succ, i64_w, i32_w]
   rfl
  refine take_ (i := 0) (N := some 7) (v := ?_) (a' := ?_) #[true, true, false, true, true, false, false, false, false, false, false, false] rfl rfl (take_ofW HT_.out HW_.out (by kernel_rfl)) (fun _ _ _ h => h) (Or.inl ⟨by rfl, ?_⟩) hHeld ?_ ?_
  rotate_left
  ·rintro w' ⟨s0, s1, s2⟩
   go_simp
   with_reducible rfl
  rotate_left
  ·simp only [Act.put, List.setIfInBounds_toArray, List.set_cons_zero, List.set_cons_succ, i64_w, i32_w]
   rfl
  refine take_ (i := 5) (N := some 12) (v := ?_) (a' := ?_) #[true, true, false, true, true, true, false, false, false, false, false, false] rfl rfl (take_ofW HT_.out HW_.out (by kernel_rfl)) (fun _ _ _ h => h) (Or.inl ⟨by rfl, ?_⟩) hHeld ?_ ?_
  rotate_left
  ·rintro w' ⟨s0, s1, s2⟩
   go_simp
   with_reducible rfl
  rotate_left
  ·simp only [Act.put, List.setIfInBounds_toArray, List.set_cons_zero, List.set_cons_succ, i64_w, i32_w]
   rfl
  refine one_ (i := 2) (N := some 9) #[true, true, true, true, true, true, false, false, false, false, false, false] rfl rfl (one_of HT_.out (by kernel_rfl)) (by decide) (fun K hK => ?_)
  refine goes_ Try.func48 (by kernel_rfl) rfl #[.agg #[.int .i64 a0_0, .int .i64 a0_1, .bool false], .int .i64 a1] (by rfl) rfl rfl (by (try simp only [List.map_toArray, List.map_cons, List.map_nil]); first | done | rfl | (simp only [List.length_drop, List.length_take]; rfl)) ?_
  with_reducible refine (papermillref13_image.calls a0_0 a0_1 false a1 t73003 _ A4.out).mono ?_
  rintro e w16 ⟨rfl, hb⟩
  refine ⟨_, rfl, ?_⟩
  have n0_ := Aside0.mk (blk_below (g := gb73001) (o := .cells #[.int .i64 a0_0, .int .i64 a0_1, .bool false] 44 (0, 0)) (BK73001.out) hb)
  have n1_ := Aside0.mk (blk_below (g := gb73002) (o := .cells #[.int .i64 0, .int .i64 0, .bool false] 44 (0, 0)) (BK73002.out) hb)
  have n2_ := Aside0.mk (below_step (by repeat (first | exact HB.out | apply below_alloc | apply pw_below_drewN | apply below_drew1 | refine below_set ?_ GE73001.out | refine below_set ?_ GE73002.out)) hb)
  clear BK73001
  clear BK73002
  clear HB
  have BK73001 := n0_
  have BK73002 := n1_
  have HB := n2_
  clear n0_ n1_ n2_
  (try clear hb)
  (try clear hb2)
  (try clear hk)
  (try clear hi)
  refine hK.out _ _ ⟨(blk_cell BK73001.out 0).trans rfl, (blk_cell BK73001.out 1).trans rfl, (blk_cell BK73001.out 2).trans rfl⟩ (fun hHeld => ?_)
  clear hK K
  refine norm_ (a' := ?_) ?_ ?_
  rotate_left
  ·show Act.put _ (some 9) _ = _
   simp only [Act.put, List.setIfInBounds_toArray, List.set_cons_zero, List.set_cons_succ, i64_w, i32_w]
   rfl
  refine pure_ (i := 6) (N := some 13) (v := ?_) (a' := ?_) #[true, true, true, true, true, true, true, false, false, false, false, false] rfl rfl (any_of HT_.out (by kernel_rfl)) (fun _ _ _ h => h) (Or.inl ⟨by rfl, ?_⟩) ?_ ?_
  rotate_left
  ·intro w'
   go_simp
   with_reducible rfl
  rotate_left
  ·simp only [Act.put, List.setIfInBounds_toArray, List.set_cons_zero, List.set_cons_succ, i64_w, i32_w]
   rfl
  refine pure_ (i := 7) (N := some 14) (v := undef) (a' := ?_) #[true, true, true, true, true, true, true, true, false, false, false, false] rfl rfl (any_of HT_.out (by kernel_rfl)) (fun _ _ _ h => h) (Or.inr ⟨by rfl, rfl⟩) ?_ ?_
  rotate_left
  ·simp only [Act.put, List.setIfInBounds_toArray, List.set_cons_zero, List.set_cons_succ, i64_w, i32_w]
   rfl
  refine pure_ (i := 8) (N := some 15) (v := undef) (a' := ?_) #[true, true, true, true, true, true, true, true, true, false, false, false] rfl rfl (any_of HT_.out (by kernel_rfl)) (fun _ _ _ h => h) (Or.inr ⟨by rfl, rfl⟩) ?_ ?_
  rotate_left
  ·simp only [Act.put, List.setIfInBounds_toArray, List.set_cons_zero, List.set_cons_succ, i64_w, i32_w]
   rfl
  refine pure_ (i := 9) (N := some 16) (v := ?_) (a' := ?_) #[true, true, true, true, true, true, true, true, true, true, false, false] rfl rfl (any_of HT_.out (by kernel_rfl)) (fun _ _ _ h => h) (Or.inl ⟨by rfl, ?_⟩) ?_ ?_
  rotate_left
  ·intro w'
   go_simp
   with_reducible rfl
  rotate_left
  ·simp only [Act.put, List.setIfInBounds_toArray, List.set_cons_zero, List.set_cons_succ, i64_w, i32_w]
   rfl
  refine pure_ (i := 10) (N := some 17) (v := ?_) (a' := ?_) #[true, true, true, true, true, true, true, true, true, true, true, false] rfl rfl (any_of HT_.out (by kernel_rfl)) (fun _ _ _ h => h) (Or.inl ⟨by rfl, ?_⟩) ?_ ?_
  rotate_left
  ·intro w'
   go_simp
   with_reducible rfl
  rotate_left
  ·simp only [Act.put, List.setIfInBounds_toArray, List.set_cons_zero, List.set_cons_succ, i64_w, i32_w]
   rfl
  refine one_ (i := 11) (N := none) #[true, true, true, true, true, true, true, true, true, true, true, true] rfl rfl (one_of HT_.out (by kernel_rfl)) (by decide) (fun K hK => ?_)
  have hs17 : w16.cell? ⟨gb73002, 0, none⟩ = some (.int .i64 0) := (blk_cell BK73002.out 0).trans rfl
  have hfs17 := blk_frozen BK73002.out 0
  have hns17_0 := NB73001_73002.out
  have hms17_0 := NB73002_73001.out
  have hs18 : w16.cell? ⟨gb73002, 1, none⟩ = some (.int .i64 0) := (blk_cell BK73002.out 1).trans rfl
  have hfs18 := blk_frozen BK73002.out 1
  have hns18_0 := NB73001_73002.out
  have hms18_0 := NB73002_73001.out
  have hs19 : w16.cell? ⟨gb73002, 2, none⟩ = some (.bool false) := (blk_cell BK73002.out 2).trans rfl
  have hfs19 := blk_frozen BK73002.out 2
  have hns19_0 := NB73001_73002.out
  have hms19_0 := NB73002_73001.out
  refine skip_ (w1 := ?_) (by rfl) rfl ?_ ?_
  rotate_left
  ·go_simp
   rfl
  refine hK.out _ _ ⟨((cell_far (p := ⟨gb73002, _, none⟩) NB73001_73002.out _).trans (((cell_far (p := ⟨gb73002, _, none⟩) NB73001_73002.out _).trans (((cell_far (p := ⟨gb73002, _, none⟩) NB73001_73002.out _).trans (hHeld.1)))))), ((cell_far (p := ⟨gb73002, _, none⟩) NB73001_73002.out _).trans (((cell_far (p := ⟨gb73002, _, none⟩) NB73001_73002.out _).trans (((cell_far (p := ⟨gb73002, _, none⟩) NB73001_73002.out _).trans (hHeld.2.1)))))), ((cell_far (p := ⟨gb73002, _, none⟩) NB73001_73002.out _).trans (((cell_far (p := ⟨gb73002, _, none⟩) NB73001_73002.out _).trans (((cell_far (p := ⟨gb73002, _, none⟩) NB73001_73002.out _).trans (hHeld.2.2))))))⟩ (fun hHeld => ?_)
  clear hK K
  refine done_ (done_of HT_.out (by kernel_rfl)) ?_
  try go_wp2
  refine bodyPost_ret (results_cell_row rfl _ _ gb73002 44 #[.int .i64 t73003, .int .i64 a2, .bool false] (0, 0) _ rfl (by refine blk_put (cs := #[.int .i64 t73003, .int .i64 a2, .bool false]) ?_ 2 _ rfl; refine blk_put (cs := #[.int .i64 t73003, .int .i64 0, .bool false]) ?_ 1 _ rfl; refine blk_put (cs := #[.int .i64 0, .int .i64 0, .bool false]) ?_ 0 _ rfl; exact BK73002.out) Try.underlying44 rfl (by kernel_rfl)) rfl ?_
  exact ⟨by first | rfl | (simp [errW_none, errW_some] <;> rfl) | (simp [*, errW_none, errW_some] <;> rfl), by repeat (first | exact HB.out | apply below_alloc | apply pw_below_drewN | apply below_drew1 | refine below_set ?_ GE73001.out | refine below_set ?_ GE73002.out)⟩

end Go.Proofs.Ytalpegglbfobiaa.G

namespace Go.Proofs.Ytalpegglbfobiaa.G
open Go.RowKit Go.Proofs.YtalpegglbfobiaaW.PrintWords Go.Proofs.YtalpegglbfobiaaW.PrintLast Go.Proofs.YtalpegglbfobiaaW.PrintMore
attribute [local go_sem] max2_int min2_int max_two min_two max_three min_three max_four min_four   -- for this text's walks alone
set_option linter.unusedVariables false
set_option linter.unusedSimpArgs false

mutual
def papermillref13_more.l0 : Nat → List (S44) → Int → Int → Bool → Option ((List (S44)))
 | 0, _, _, _, _ => none
 | k + 1, x5, x61002000, x61002001, x61002002 => if x61002001 > 0 then (if (wrap64 ((x5.length : Int) - 1)) < 0 then ((papermillref13_cut.f x61002000 x61002001 x61002002 0 x61002001).bind fun bt61008 => (if x5.length < 5864062014805 then (some (x5 ++ [(⟨bt61008.1, bt61008.2.1, bt61008.2.2⟩ : S44)])) else (none))) else (if 0 ≤ (wrap64 ((x5.length : Int) - 1)) then (if (wrap64 ((x5.length : Int) - 1)) < (x5.length : Int) then ((papermillref13_image.f ((rd_T44 x5 (wrap64 ((x5.length : Int) - 1))).f0) ((rd_T44 x5 (wrap64 ((x5.length : Int) - 1))).f1) ((rd_T44 x5 (wrap64 ((x5.length : Int) - 1))).f2) (wrap64 (((rd_T44 x5 (wrap64 ((x5.length : Int) - 1))).f1) - 1))).bind fun t61016 => (if (wrap64 (x61002000 - t61016)) = 1 then (if ((rd_T44 x5 (wrap64 ((x5.length : Int) - 1))).f1) > 1 then (papermillref13_more.j1 k x5 (wrap64 ((x5.length : Int) - 1)) (wrap64 (x61002000 - t61016)) (((rd_T44 x5 (wrap64 ((x5.length : Int) - 1))).f2) != ((wrap64 (x61002000 - t61016)) == (-1))) x61002000 x61002001 x61002002 ((rd_T44 x5 (wrap64 ((x5.length : Int) - 1))).f0) ((rd_T44 x5 (wrap64 ((x5.length : Int) - 1))).f1) ((rd_T44 x5 (wrap64 ((x5.length : Int) - 1))).f2)) else (papermillref13_more.j1 k x5 (wrap64 ((x5.length : Int) - 1)) (wrap64 (x61002000 - t61016)) false x61002000 x61002001 x61002002 ((rd_T44 x5 (wrap64 ((x5.length : Int) - 1))).f0) ((rd_T44 x5 (wrap64 ((x5.length : Int) - 1))).f1) ((rd_T44 x5 (wrap64 ((x5.length : Int) - 1))).f2))) else (if (wrap64 (x61002000 - t61016)) = (-1) then (if ((rd_T44 x5 (wrap64 ((x5.length : Int) - 1))).f1) > 1 then (papermillref13_more.j1 k x5 (wrap64 ((x5.length : Int) - 1)) (wrap64 (x61002000 - t61016)) (((rd_T44 x5 (wrap64 ((x5.length : Int) - 1))).f2) != ((wrap64 (x61002000 - t61016)) == (-1))) x61002000 x61002001 x61002002 ((rd_T44 x5 (wrap64 ((x5.length : Int) - 1))).f0) ((rd_T44 x5 (wrap64 ((x5.length : Int) - 1))).f1) ((rd_T44 x5 (wrap64 ((x5.length : Int) - 1))).f2)) else (papermillref13_more.j1 k x5 (wrap64 ((x5.length : Int) - 1)) (wrap64 (x61002000 - t61016)) false x61002000 x61002001 x61002002 ((rd_T44 x5 (wrap64 ((x5.length : Int) - 1))).f0) ((rd_T44 x5 (wrap64 ((x5.length : Int) - 1))).f1) ((rd_T44 x5 (wrap64 ((x5.length : Int) - 1))).f2))) else (papermillref13_more.j1 k x5 (wrap64 ((x5.length : Int) - 1)) (wrap64 (x61002000 - t61016)) true x61002000 x61002001 x61002002 ((rd_T44 x5 (wrap64 ((x5.length : Int) - 1))).f0) ((rd_T44 x5 (wrap64 ((x5.length : Int) - 1))).f1) ((rd_T44 x5 (wrap64 ((x5.length : Int) - 1))).f2))))) else (none)) else (none))) else (some x5)
def papermillref13_more.j1 : Nat → List (S44) → Int → Int → Bool → Int → Int → Bool → Int → Int → Bool → Option ((List (S44)))
 | 0, _, _, _, _, _, _, _, _, _, _ => none
 | k + 1, x5, x6, x8, x57, x61002000, x61002001, x61002002, x61016000, x61016001, x61016002 => if x57 = true then ((papermillref13_cut.f x61002000 x61002001 x61002002 0 x61002001).bind fun bt61017 => (if x5.length < 5864062014805 then (some (x5 ++ [(⟨bt61017.1, bt61017.2.1, bt61017.2.2⟩ : S44)])) else (none))) else (if x61002001 > 1 then (papermillref13_more.j2 k x5 x6 x8 x61002001 (x61002002 != (x8 == (-1))) x61002000 x61002001 x61002002 x61016000 x61016001 x61016002) else (papermillref13_more.j2 k x5 x6 x8 x61002001 false x61002000 x61002001 x61002002 x61016000 x61016001 x61016002))
def papermillref13_more.j2 : Nat → List (S44) → Int → Int → Int → Bool → Int → Int → Bool → Int → Int → Bool → Option ((List (S44)))
 | 0, _, _, _, _, _, _, _, _, _, _, _ => none
 | k + 1, x5, x6, x8, x9, x75, x61002000, x61002001, x61002002, x61016000, x61016001, x61016002 => if x75 = true then (if 0 ≤ x6 then (if x6 < (x5.length : Int) then ((some (x5.set (x6 : Int).toNat (⟨x61016000, wrap64 (x61016001 + 1), (x8 == (-1))⟩ : S44) : List (S44))).bind fun y61023 => (if 1 = x61002001 then (some y61023) else ((papermillref13_cut.f x61002000 x61002001 x61002002 1 (wrap64 (x61002001 - 1))).bind fun bt61024 => (papermillref13_more.l0 k y61023 bt61024.1 bt61024.2.1 bt61024.2.2)))) else (none)) else (none)) else (if 0 ≤ x6 then (if x6 < (x5.length : Int) then ((some (x5.set (x6 : Int).toNat (⟨x61016000, wrap64 (x61016001 + x9), (x8 == (-1))⟩ : S44) : List (S44))).bind fun y61027 => (if x9 = x61002001 then (some y61027) else ((papermillref13_cut.f x61002000 x61002001 x61002002 x9 (wrap64 (x61002001 - x9))).bind fun bt61028 => (papermillref13_more.l0 k y61027 bt61028.1 bt61028.2.1 bt61028.2.2)))) else (none)) else (none))
end
def papermillref13_more.f (k : Nat) (l0 : List (S44)) (a1_0 : Int) (a1_1 : Int) (a1_2 : Bool) : Option ((List (S44))) := (some (([] : List (S44)) : List (S44))).bind fun y61002 => (if y61002.length + l0.length < 5864062014805 then (papermillref13_more.l0 k (y61002 ++ l0) a1_0 a1_1 a1_2) else (none))
def papermillref13_more.T7 : Bool × List (List Nat × List Nat) := (true, [([], []), ([0], [0]), ([], []), ([], []), ([3], [3]), ([4], [4]), ([2, 5], [2, 5]), ([1, 6], [1, 6]), ([7, 6, 0, 1, 2, 3, 4, 5, 6, 7], [7])])
def papermillref13_more.B7 : List Nat := [0, 1, 0, 0, 8, 24, 60, 127, 255]
theorem papermillref13_more.tab7 : rtab .any (opsOf Try.f60 7) = papermillref13_more.T7 := by kernel_rfl
theorem papermillref13_more.bits7 : waitsOk papermillref13_more.T7.2 papermillref13_more.B7 = true := by kernel_rfl
set_option maxHeartbeats 8000000 in
set_option maxRecDepth 100000 in
theorem papermillref13_more.calls (k : Nat) (A0 : Option Addr) (c0 : Nat) (l0 : List (S44)) (a1_0 : Int) (a1_1 : Int) (a1_2 : Bool) (r : List (S44)) (w : World) (hr0 : Kd.C k44 w A0 l0.length l0) (hc0 : l0.length ≤ c0) (h : papermillref13_more.f k l0 a1_0 a1_1 a1_2 = some r) :
  Calls Try.prog 60 #[.slice A0 l0.length c0, .agg #[.int .i64 a1_0, .int .i64 a1_1, .bool a1_2]] w fun e w' => ∃ v0_ : Value, e = .returned (v0_) ∧ Kd.R k44 44 w' w.heap.size (fun _ => True) v0_ r ∧ Below w.heap.size w w' := by
 have hu44 := Try.underlying44
 have HR0 := Aside0.mk hr0
 have HC0 := Aside0.mk hc0
 clear hr0 hc0
 have HB := Aside0.mk (Below.refl w.heap.size w)
 have H : ((some (([] : List (S44)) : List (S44))).bind fun y61002 => (if y61002.length + l0.length < 5864062014805 then (papermillref13_more.l0 k (y61002 ++ l0) a1_0 a1_1 a1_2) else (none))) = some r := h
 clear h
 obtain ⟨y61002, hy61002⟩ : ∃ y_ : List (S44), y_ = (([] : List (S44))) := ⟨_, rfl⟩
 replace H : (if y61002.length + l0.length < 5864062014805 then (papermillref13_more.l0 k (y61002 ++ l0) a1_0 a1_1 a1_2) else (none)) = some r := by first | (rw [hy61002]; with_reducible exact H) | (have H2_ := (Option.bind_some _ _).symm.trans H; rw [hy61002]; with_reducible exact H2_) | (have H2_ := (Option.bind_some _ _).symm.trans H; with_reducible exact H2_) | with_reducible exact H | (rw [hy61002]; exact H) | exact H
 have Ny61002 := Aside0.mk hy61002
 clear hy61002
 by_cases c3 : y61002.length + l0.length < 5864062014805
 ·rw [if_pos c3] at H
  have LMc3 := Aside0.mk c3
  clear c3
  obtain ⟨y61005, hy61005⟩ : ∃ y_ : List (S44), y_ = (y61002 ++ l0) := ⟨_, rfl⟩
  replace H : (papermillref13_more.l0 k y61005 a1_0 a1_1 a1_2) = some r := by first | (rw [hy61005]; with_reducible exact H) | (have H2_ := (Option.bind_some _ _).symm.trans H; rw [hy61005]; with_reducible exact H2_) | (have H2_ := (Option.bind_some _ _).symm.trans H; with_reducible exact H2_) | with_reducible exact H | (rw [hy61005]; exact H) | exact H
  have Ny61005 := Aside0.mk hy61005
  clear hy61005
  have H' := Aside0.mk H
  clear H
  go_enter Try.func60, Try.ntmps60
  go_wp2_with (first | ((with_reducible refine gate_dst (N := 3) rfl ?_); refine box_event ?hg (N := 3) ?hd (cs := #[.int .i64 a1_0, .int .i64 a1_1, .bool a1_2]) (t := 44) ?hr ?_; (case hd => rfl); (case hg => rfl); (case hr => first | (go_simp; done) | (go_simp; rfl)); intro gb61001 hg w4 hbox hb; have n0_ := Aside0.mk (below_step (by repeat (first | exact HB.out | apply below_alloc | apply pw_below_drewN | apply below_drew1)) hb); have n1_ := Aside0.mk (hbox); have n2_ := Aside0.mk ((by rw [hg]; exact (below_size (by repeat (first | exact HB.out | apply below_alloc | apply pw_below_drewN | apply below_drew1))) : w.heap.size ≤ gb61001)); have n3_ := Aside0.mk ((by rw [hg]; exact (below_size (by repeat (first | exact HB.out | apply below_alloc | apply pw_below_drewN | apply below_drew1))) : w.heap.size ≤ gb61001)); clear HB; have HB := n0_; have BK61001 := n1_; have GW61001 := n2_; have GE61001 := n3_; clear n0_ n1_ n2_ n3_; clear hb hbox hg) | ((with_reducible refine gate_dst (N := 10) rfl ?_); refine Kd.R_lit k44 _ 44 ?hg (N := 10) ?hd (xs := ([] : List (S44))) (inner := []) (ok := fun _ => True) (okp := fun _ => True) ?hr ?hp (fun _ hk => hk) trivial (Below.refl _ _) (Nat.le_refl _) (by simp) ?_; (case hd => rfl); (case hg => rfl); (case hr => first | (go_simp; done) | (go_simp; rfl)); (case hp => exact (Reps.none _ _)); intro v61003 w5 ho6 hb hg_ hnew_; clear hg_ hnew_; (first | rw [← Ny61002.out] at ho6 | (simp only [Int.reduceToNat] at ho6; rw [← Ny61002.out] at ho6)); have n0_ := Aside0.mk (Kd.R_lower (Kd.R_newB ho6 (g := gb61001) (o := .cells #[.int .i64 a1_0, .int .i64 a1_1, .bool a1_2] 44 (0, 0)) (BK61001.out)) (below_size (by repeat (first | exact HB.out | apply below_alloc | apply pw_below_drewN | apply below_drew1 | refine below_set ?_ GE61001.out)))); have n1_ := Aside0.mk (blk_below (g := gb61001) (o := .cells #[.int .i64 a1_0, .int .i64 a1_1, .bool a1_2] 44 (0, 0)) (BK61001.out) hb); have n2_ := Aside0.mk (below_step (by repeat (first | exact HB.out | apply below_alloc | apply pw_below_drewN | apply below_drew1 | refine below_set ?_ GE61001.out)) hb); clear BK61001; clear HB; have HO61004 := n0_; have BK61001 := n1_; have HB := n2_; clear n0_ n1_ n2_; clear hb ho6) | ((with_reducible refine gate_builtin (b := .append) (xs := #[.tmp 10, .tmp 11]) rfl ?_); at_builtin; refine Kd.R_append_rows k44 (w0 := w) w.heap.size rfl (.tmp 10) (.tmp 11) 22 44 (.agg #[(.int .i64 0), (.int .i64 0), (.bool false)]) 24 rfl Try.underlying22 info44 rfl (by decide) (by omega) v61003 y61002 l0 _ _ _ (fun k_ => k_ ≠ gb61001) (fun _ => False) rfl rfl ?aO ?aR (fun _ _ h => h) (fun _ h => h.elim) ?aF ?aB ?aS ?aL ?_; (case aR => exact (Kd.C_below HR0.out HB.out)); (case aB => exact (by repeat (first | exact HB.out | apply below_alloc | apply pw_below_drewN | apply below_drew1 | refine below_set ?_ GE61001.out))); (case aF => exact (fun k_ hk => Kd.freshB (g := gb61001) (o := .cells #[.int .i64 a1_0, .int .i64 a1_1, .bool a1_2] 44 (0, 0)) (BK61001.out) k_ hk)); (case aO => exact (by exact Kd.R_mono HO61004.out (fun _ hk => hk.2))); (case aS => exact (below_size (by repeat (first | exact HB.out | apply below_alloc | apply pw_below_drewN | apply below_drew1 | refine below_set ?_ GE61001.out)))); (case aL => have := LMc3.out; omega); intro v61006 w7 ho hb hg hat; rw [← Ny61005.out] at ho; have n0_ := Aside0.mk (blk_grown (g := gb61001) (o := .cells #[.int .i64 a1_0, .int .i64 a1_1, .bool a1_2] 44 (0, 0)) (BK61001.out) hg (Kd.R_away HO61004.out (fun _ hk => hk.2))); have n1_ := Aside0.mk (hb); have n2_ := Aside0.mk (ho); clear BK61001; clear HB; clear HO61004; have BK61001 := n0_; have HB := n1_; have HO61007 := n2_; clear n0_ n1_ n2_; clear ho hb hg hat))
  go_loopg [] k (fun kq w' => ∃ (x5_1 : List (S44)) (x61002000_1 : Int) (x61002001_1 : Int) (x61002002_1 : Bool), Aside0 (papermillref13_more.l0 kq x5_1 x61002000_1 x61002001_1 x61002002_1 = some r) ∧ Aside0 (kq ≤ k) ∧ Aside0 (Kd.R k44 44 w' w.heap.size (fun k_ => k_ ≠ gb61001) v61006 x5_1) ∧ Aside0 (w'.heap[gb61001]? = some (.cells #[.int .i64 x61002000_1, .int .i64 x61002001_1, .bool x61002002_1] 44 (0, 0))) ∧ Aside0 (Below w.heap.size w w'))
  case atStart => exact ⟨(y61005), (a1_0), (a1_1), (a1_2), H', ⟨Nat.le_refl _⟩, ⟨HO61007.out⟩, ⟨BK61001.out⟩, ⟨by repeat (first | exact HB.out | apply below_alloc | apply pw_below_drewN | apply below_drew1 | refine below_set ?_ GE61001.out)⟩⟩
  case round =>
   clear H'
   try clear p2
   try clear c3
   try clear c6
   obtain ⟨x5_1, x61002000_1, x61002001_1, x61002002_1, HA, HK1, HO_5, BK61001, HB⟩ := hrel
   cases gk with
   | zero => exact absurd HA.out (by simp [papermillref13_more.l0])
   | succ k1 =>
    have H := HA.out
    clear HA
    simp only [papermillref13_more.l0] at H
    by_cases c8 : x61002001_1 > 0
    ·rw [if_pos c8] at H
     have c8b0 : decide (0 < x61002001_1) = true := decide_eq_true c8
     clear c8
     by_cases c9 : (wrap64 ((x5_1.length : Int) - 1)) < 0
     ·rw [if_pos c9] at H
      have c9b0 : decide ((wrap64 ((x5_1.length : Int) - 1)) < 0) = true := decide_eq_true c9
      clear c9
      replace H := Option.bind_eq_some_iff.mp H
      obtain ⟨⟨t61008, t61009, t61010⟩, A100, H⟩ := H
      replace H : (if x5_1.length < 5864062014805 then (some (x5_1 ++ [(⟨t61008, t61009, t61010⟩ : S44)])) else (none)) = some r := H
      have A10 := Aside0.mk A100
      clear A100
      by_cases c11 : x5_1.length < 5864062014805
      ·rw [if_pos c11] at H
       have LMc11 := Aside0.mk c11
       clear c11
       obtain ⟨y61011, hy61011⟩ : ∃ y_ : List (S44), y_ = (x5_1 ++ [(⟨t61008, t61009, t61010⟩ : S44)]) := ⟨_, rfl⟩
       replace H : (some y61011) = some r := by first | (rw [hy61011]; with_reducible exact H) | (have H2_ := (Option.bind_some _ _).symm.trans H; rw [hy61011]; with_reducible exact H2_) | (have H2_ := (Option.bind_some _ _).symm.trans H; with_reducible exact H2_) | with_reducible exact H | (rw [hy61011]; exact H) | exact H
       have Ny61011 := Aside0.mk hy61011
       clear hy61011
       obtain rfl := Option.some.inj H
       have hcz12_0 : wr.cell? ⟨gb61001, 0, none⟩ = some (.int .i64 x61002000_1) := (blk_cell BK61001.out 0).trans rfl
       have hcz12_1 : wr.cell? ⟨gb61001, 1, none⟩ = some (.int .i64 x61002001_1) := (blk_cell BK61001.out 1).trans rfl
       have hcz12_2 : wr.cell? ⟨gb61001, 2, none⟩ = some (.bool x61002002_1) := (blk_cell BK61001.out 2).trans rfl
       have hfz12_0 := blk_frozen BK61001.out 0
       have hfz12_1 := blk_frozen BK61001.out 1
       have hfz12_2 := blk_frozen BK61001.out 2
       obtain ⟨Ao13, co13, eo13⟩ := Kd.R_slice HO_5.out
       subst eo13
       go_wp2_with (first | ((with_reducible refine gate_callee (f := 72) rfl ?_); refine goesL_ (some 25) rfl rfl Try.func72 (by kernel_rfl) rfl #[.agg #[.int .i64 x61002000_1, .int .i64 x61002001_1, .bool x61002002_1], .int .i64 0, .int .i64 x61002001_1] rfl (by (try simp only [List.map_toArray, List.map_cons, List.map_nil]); first | done | rfl | (simp only [List.length_drop, List.length_take]; rfl)) ?_; (with_reducible refine (papermillref13_cut.calls x61002000_1 x61002001_1 x61002002_1 0 x61002001_1 t61008 t61009 t61010 _ A10.out).mono ?_); rintro e w14 ⟨rfl, hb⟩; refine ⟨_, rfl, ?_⟩; have n0_ := Aside0.mk (Kd.R_below (HO_5.out) hb); have n1_ := Aside0.mk (blk_below (g := gb61001) (o := .cells #[.int .i64 x61002000_1, .int .i64 x61002001_1, .bool x61002002_1] 44 (0, 0)) (BK61001.out) hb); have n2_ := Aside0.mk (below_step (by repeat (first | exact HB.out | apply below_alloc | apply pw_below_drewN | apply below_drew1 | refine below_set ?_ GE61001.out)) hb); clear HO_5; clear BK61001; clear HB; have HO_5 := n0_; have BK61001 := n1_; have HB := n2_; clear n0_ n1_ n2_; (try clear hb); (try clear hb2); (try clear hk); (try clear hi)) | ((with_reducible refine gate_builtin (b := .append) (xs := #[.tmp 21, .tmp 26]) rfl ?_); at_builtin; refine Kd.R_append k44 (w0 := w) w.heap.size rfl (.tmp 21) (.tmp 26) 22 44 (.agg #[(.int .i64 0), (.int .i64 0), (.bool false)]) 24 rfl Try.underlying22 info44 rfl (by decide) (by omega) (.slice Ao13 x5_1.length co13) x5_1 (⟨t61008, t61009, t61010⟩ : S44) [.int .i64 t61008, .int .i64 t61009, .bool t61010] (fun k_ => k_ ≠ gb61001) (fun _ => False) rfl rfl ?aP (fun _ hk => hk.elim) ?aF ?aO ?aB ?aS ?aL ?_; (case aP => exact k44_mkM _ _ _ (⟨t61008, t61009, t61010⟩ : S44)); (case aB => exact (by repeat (first | exact HB.out | apply below_alloc | apply pw_below_drewN | apply below_drew1 | refine below_set ?_ GE61001.out))); (case aF => exact (fun k_ hk => Kd.freshB (g := gb61001) (o := .cells #[.int .i64 x61002000_1, .int .i64 x61002001_1, .bool x61002002_1] 44 (0, 0)) (BK61001.out) k_ hk)); (case aO => exact (HO_5.out)); (case aS => exact (below_size (by repeat (first | exact HB.out | apply below_alloc | apply pw_below_drewN | apply below_drew1 | refine below_set ?_ GE61001.out)))); (case aL => have := LMc11.out; omega); intro v61012 w15 ho hb hg hat; rw [← Ny61011.out] at ho; have n0_ := Aside0.mk (blk_grown (g := gb61001) (o := .cells #[.int .i64 x61002000_1, .int .i64 x61002001_1, .bool x61002002_1] 44 (0, 0)) (BK61001.out) hg (Kd.R_away HO_5.out (fun _ hk => hk))); have n1_ := Aside0.mk (hb); have n2_ := Aside0.mk (ho); clear BK61001; clear HB; clear HO_5; have BK61001 := n0_; have HB := n1_; have HO61013 := n2_; clear n0_ n1_ n2_; clear ho hb hg hat))
       go_ret
       exact ⟨_, by first | rfl | (simp [errW_none, errW_some] <;> rfl) | (simp [*, errW_none, errW_some] <;> rfl), by exact Kd.R_mono HO61013.out (fun _ hk => trivial), by repeat (first | exact HB.out | apply below_alloc | apply pw_below_drewN | apply below_drew1 | refine below_set ?_ GE61001.out)⟩
      ·rw [if_neg c11] at H
       exact absurd H (by simp)
     ·rw [if_neg c9] at H
      have c9b0 : decide ((wrap64 ((x5_1.length : Int) - 1)) < 0) = false := decide_eq_false c9
      clear c9
      obtain ⟨ji16, hji16⟩ : ∃ j_ : Int, (wrap64 ((x5_1.length : Int) - 1)) = j_ := ⟨_, rfl⟩
      replace H : (if 0 ≤ (ji16) then (if (ji16) < (x5_1.length : Int) then ((papermillref13_image.f ((rd_T44 x5_1 (ji16)).f0) ((rd_T44 x5_1 (ji16)).f1) ((rd_T44 x5_1 (ji16)).f2) (wrap64 (((rd_T44 x5_1 (ji16)).f1) - 1))).bind fun t61016 => (if (wrap64 (x61002000_1 - t61016)) = 1 then (if ((rd_T44 x5_1 (ji16)).f1) > 1 then (papermillref13_more.j1 k1 x5_1 ji16 (wrap64 (x61002000_1 - t61016)) (((rd_T44 x5_1 (ji16)).f2) != ((wrap64 (x61002000_1 - t61016)) == (-1))) x61002000_1 x61002001_1 x61002002_1 ((rd_T44 x5_1 (ji16)).f0) ((rd_T44 x5_1 (ji16)).f1) ((rd_T44 x5_1 (ji16)).f2)) else (papermillref13_more.j1 k1 x5_1 ji16 (wrap64 (x61002000_1 - t61016)) false x61002000_1 x61002001_1 x61002002_1 ((rd_T44 x5_1 (ji16)).f0) ((rd_T44 x5_1 (ji16)).f1) ((rd_T44 x5_1 (ji16)).f2))) else (if (wrap64 (x61002000_1 - t61016)) = (-1) then (if ((rd_T44 x5_1 (ji16)).f1) > 1 then (papermillref13_more.j1 k1 x5_1 ji16 (wrap64 (x61002000_1 - t61016)) (((rd_T44 x5_1 (ji16)).f2) != ((wrap64 (x61002000_1 - t61016)) == (-1))) x61002000_1 x61002001_1 x61002002_1 ((rd_T44 x5_1 (ji16)).f0) ((rd_T44 x5_1 (ji16)).f1) ((rd_T44 x5_1 (ji16)).f2)) else (papermillref13_more.j1 k1 x5_1 ji16 (wrap64 (x61002000_1 - t61016)) false x61002000_1 x61002001_1 x61002002_1 ((rd_T44 x5_1 (ji16)).f0) ((rd_T44 x5_1 (ji16)).f1) ((rd_T44 x5_1 (ji16)).f2))) else (papermillref13_more.j1 k1 x5_1 ji16 (wrap64 (x61002000_1 - t61016)) true x61002000_1 x61002001_1 x61002002_1 ((rd_T44 x5_1 (ji16)).f0) ((rd_T44 x5_1 (ji16)).f1) ((rd_T44 x5_1 (ji16)).f2))))) else (none)) else (none)) = some r := by first | (rw [hji16] at H; exact H) | (simp only [hji16] at H ⊢; exact H)
      (try rw [hji16] at c9b0)
      have hji16w : (IntKind.i64.wrap ((x5_1.length : Int) - 1)) = ji16 := (i64_w _).trans hji16
      by_cases c17 : 0 ≤ (ji16)
      ·rw [if_pos c17] at H
       have c17b0 : decide (0 ≤ (ji16)) = true := decide_eq_true c17
       clear c17
       by_cases c18 : (ji16) < (x5_1.length : Int)
       ·rw [if_pos c18] at H
        have c18b0 : decide ((ji16) < (x5_1.length : Int)) = true := decide_eq_true c18
        clear c18
        replace H := Option.bind_eq_some_iff.mp H
        obtain ⟨t61016, A190, H⟩ := H
        replace H : (if (wrap64 (x61002000_1 - t61016)) = 1 then (if ((rd_T44 x5_1 (ji16)).f1) > 1 then (papermillref13_more.j1 k1 x5_1 ji16 (wrap64 (x61002000_1 - t61016)) (((rd_T44 x5_1 (ji16)).f2) != ((wrap64 (x61002000_1 - t61016)) == (-1))) x61002000_1 x61002001_1 x61002002_1 ((rd_T44 x5_1 (ji16)).f0) ((rd_T44 x5_1 (ji16)).f1) ((rd_T44 x5_1 (ji16)).f2)) else (papermillref13_more.j1 k1 x5_1 ji16 (wrap64 (x61002000_1 - t61016)) false x61002000_1 x61002001_1 x61002002_1 ((rd_T44 x5_1 (ji16)).f0) ((rd_T44 x5_1 (ji16)).f1) ((rd_T44 x5_1 (ji16)).f2))) else (if (wrap64 (x61002000_1 - t61016)) = (-1) then (if ((rd_T44 x5_1 (ji16)).f1) > 1 then (papermillref13_more.j1 k1 x5_1 ji16 (wrap64 (x61002000_1 - t61016)) (((rd_T44 x5_1 (ji16)).f2) != ((wrap64 (x61002000_1 - t61016)) == (-1))) x61002000_1 x61002001_1 x61002002_1 ((rd_T44 x5_1 (ji16)).f0) ((rd_T44 x5_1 (ji16)).f1) ((rd_T44 x5_1 (ji16)).f2)) else (papermillref13_more.j1 k1 x5_1 ji16 (wrap64 (x61002000_1 - t61016)) false x61002000_1 x61002001_1 x61002002_1 ((rd_T44 x5_1 (ji16)).f0) ((rd_T44 x5_1 (ji16)).f1) ((rd_T44 x5_1 (ji16)).f2))) else (papermillref13_more.j1 k1 x5_1 ji16 (wrap64 (x61002000_1 - t61016)) true x61002000_1 x61002001_1 x61002002_1 ((rd_T44 x5_1 (ji16)).f0) ((rd_T44 x5_1 (ji16)).f1) ((rd_T44 x5_1 (ji16)).f2)))) = some r := H
        have A19 := Aside0.mk A190
        clear A190
        have HC20 := Aside0.mk H
        clear H
        have hcz21_0 : wr.cell? ⟨gb61001, 0, none⟩ = some (.int .i64 x61002000_1) := (blk_cell BK61001.out 0).trans rfl
        have hcz21_1 : wr.cell? ⟨gb61001, 1, none⟩ = some (.int .i64 x61002001_1) := (blk_cell BK61001.out 1).trans rfl
        have hcz21_2 : wr.cell? ⟨gb61001, 2, none⟩ = some (.bool x61002002_1) := (blk_cell BK61001.out 2).trans rfl
        have hfz21_0 := blk_frozen BK61001.out 0
        have hfz21_1 := blk_frozen BK61001.out 1
        have hfz21_2 := blk_frozen BK61001.out 2
        obtain ⟨Ao22, co22, eo22⟩ := Kd.R_slice HO_5.out
        subst eo22
        have p61014 : 0 ≤ ((ji16) : Int) := of_decide_eq_true (by assumption)
        have q61014 : (ji16) < (x5_1.length : Int) := of_decide_eq_true (by assumption)
        obtain ⟨ad61014, e61014, hx61014_0, hx61014_1, hx61014_2⟩ := at_T44 (Kd.R_reads' HO_5.out).2.2 (ji16) p61014 q61014
        cases e61014
        replace p61014 := eq_true p61014
        replace q61014 := eq_true q61014
        try go_wp2_with (first | ((with_reducible refine gate_dst (N := 7) rfl ?_); refine box_event ?hg (N := 7) ?hd (cs := #[.int .i64 0, .int .i64 0, .bool false]) (t := 44) ?hr ?_; (case hd => rfl); (case hg => rfl); (case hr => first | (go_simp; done) | (go_simp; rfl)); intro gb61015 hg w23 hbox hb; have n0_ := Aside0.mk (Kd.R_below (Kd.R_elderB (HO_5.out) gb61015 (Nat.le_of_eq hg.symm)) hb); have n1_ := Aside0.mk (blk_below (g := gb61001) (o := .cells #[.int .i64 x61002000_1, .int .i64 x61002001_1, .bool x61002002_1] 44 (0, 0)) (BK61001.out) hb); have n2_ := Aside0.mk (below_step (by repeat (first | exact HB.out | apply below_alloc | apply pw_below_drewN | apply below_drew1 | refine below_set ?_ GE61001.out)) hb); have n3_ := Aside0.mk (hbox); have n4_ := Aside0.mk ((by rw [hg]; exact (below_size (by repeat (first | exact HB.out | apply below_alloc | apply pw_below_drewN | apply below_drew1 | refine below_set ?_ GE61001.out))) : w.heap.size ≤ gb61015)); have n5_ := Aside0.mk ((by rw [hg]; exact (below_size (by repeat (first | exact HB.out | apply below_alloc | apply pw_below_drewN | apply below_drew1 | refine below_set ?_ GE61001.out))) : w.heap.size ≤ gb61015)); have n6_ := Aside0.mk ((by rw [hg]; exact Nat.ne_of_lt (blk_lt (g := gb61001) (o := .cells #[.int .i64 x61002000_1, .int .i64 x61002001_1, .bool x61002002_1] 44 (0, 0)) (BK61001.out)) : gb61001 ≠ gb61015)); have n7_ := Aside0.mk ((by rw [hg]; exact Nat.ne_of_gt (blk_lt (g := gb61001) (o := .cells #[.int .i64 x61002000_1, .int .i64 x61002001_1, .bool x61002002_1] 44 (0, 0)) (BK61001.out)) : gb61015 ≠ gb61001)); clear HO_5; clear BK61001; clear HB; have HO_5 := n0_; have BK61001 := n1_; have HB := n2_; have BK61015 := n3_; have GW61015 := n4_; have GE61015 := n5_; have NB61001_61015 := n6_; have NB61015_61001 := n7_; clear n0_ n1_ n2_ n3_ n4_ n5_ n6_ n7_; clear hb hbox hg; have hnb24 := NB61015_61001.out; have hnc24 := NB61001_61015.out; have hcz25_0 : w23.cell? ⟨gb61015, 0, none⟩ = some (.int .i64 0) := (blk_cell BK61015.out 0).trans rfl; have hcz25_1 : w23.cell? ⟨gb61015, 1, none⟩ = some (.int .i64 0) := (blk_cell BK61015.out 1).trans rfl; have hcz25_2 : w23.cell? ⟨gb61015, 2, none⟩ = some (.bool false) := (blk_cell BK61015.out 2).trans rfl; have hfz25_0 := blk_frozen BK61015.out 0; have hfz25_1 := blk_frozen BK61015.out 1; have hfz25_2 := blk_frozen BK61015.out 2))
        have n0_ : Aside0 (Kd.R k44 44 (((w23.setCell ⟨gb61015, 0, none⟩ (.int .i64 ((rd_T44 x5_1 (ji16)).f0))).setCell ⟨gb61015, 1, none⟩ (.int .i64 ((rd_T44 x5_1 (ji16)).f1))).setCell ⟨gb61015, 2, none⟩ (.bool ((rd_T44 x5_1 (ji16)).f2))) w.heap.size (fun k_ => k_ ≠ gb61001 ∧ k_ ≠ gb61015) (.slice (some ad61014) x5_1.length co22) x5_1) := ⟨by exact Kd.R_mono (Kd.R_far (p := ⟨gb61015, 2, none⟩) (Kd.R_far (p := ⟨gb61015, 1, none⟩) (Kd.R_far (p := ⟨gb61015, 0, none⟩) (Kd.R_mono HO_5.out (fun k_ hk => (⟨hk, hk.2⟩ : _ ∧ k_ ≠ gb61015))) (fun _ hk => hk.2) (.int .i64 ((rd_T44 x5_1 (ji16)).f0))) (fun _ hk => hk.2) (.int .i64 ((rd_T44 x5_1 (ji16)).f1))) (fun _ hk => hk.2) (.bool ((rd_T44 x5_1 (ji16)).f2))) (fun _ hk => ⟨hk.1.1, hk.1.2⟩)⟩
        have n1_ : Aside0 ((((w23.setCell ⟨gb61015, 0, none⟩ (.int .i64 ((rd_T44 x5_1 (ji16)).f0))).setCell ⟨gb61015, 1, none⟩ (.int .i64 ((rd_T44 x5_1 (ji16)).f1))).setCell ⟨gb61015, 2, none⟩ (.bool ((rd_T44 x5_1 (ji16)).f2))).heap[gb61001]? = some (.cells #[.int .i64 x61002000_1, .int .i64 x61002001_1, .bool x61002002_1] 44 (0, 0))) := ⟨by refine blk_far ?_ NB61001_61015.out _; refine blk_far ?_ NB61001_61015.out _; refine blk_far ?_ NB61001_61015.out _; exact BK61001.out⟩
        have n2_ : Aside0 ((((w23.setCell ⟨gb61015, 0, none⟩ (.int .i64 ((rd_T44 x5_1 (ji16)).f0))).setCell ⟨gb61015, 1, none⟩ (.int .i64 ((rd_T44 x5_1 (ji16)).f1))).setCell ⟨gb61015, 2, none⟩ (.bool ((rd_T44 x5_1 (ji16)).f2))).heap[gb61015]? = some (.cells #[.int .i64 ((rd_T44 x5_1 (ji16)).f0), .int .i64 ((rd_T44 x5_1 (ji16)).f1), .bool ((rd_T44 x5_1 (ji16)).f2)] 44 (0, 0))) := ⟨by refine blk_put (cs := #[.int .i64 ((rd_T44 x5_1 (ji16)).f0), .int .i64 ((rd_T44 x5_1 (ji16)).f1), .bool false]) ?_ 2 _ rfl; refine blk_put (cs := #[.int .i64 ((rd_T44 x5_1 (ji16)).f0), .int .i64 0, .bool false]) ?_ 1 _ rfl; refine blk_put (cs := #[.int .i64 0, .int .i64 0, .bool false]) ?_ 0 _ rfl; exact BK61015.out⟩
        have n3_ : Aside0 (Below w.heap.size w (((w23.setCell ⟨gb61015, 0, none⟩ (.int .i64 ((rd_T44 x5_1 (ji16)).f0))).setCell ⟨gb61015, 1, none⟩ (.int .i64 ((rd_T44 x5_1 (ji16)).f1))).setCell ⟨gb61015, 2, none⟩ (.bool ((rd_T44 x5_1 (ji16)).f2)))) := ⟨by repeat (first | exact HB.out | apply below_alloc | apply pw_below_drewN | apply below_drew1 | refine below_set ?_ GE61001.out | refine below_set ?_ GE61015.out)⟩
        (try clear HO_5)
        (try clear BK61001)
        (try clear BK61015)
        (try clear HB)
        generalize (((w23.setCell ⟨gb61015, 0, none⟩ (.int .i64 ((rd_T44 x5_1 (ji16)).f0))).setCell ⟨gb61015, 1, none⟩ (.int .i64 ((rd_T44 x5_1 (ji16)).f1))).setCell ⟨gb61015, 2, none⟩ (.bool ((rd_T44 x5_1 (ji16)).f2))) = w26 at n0_ n1_ n2_ n3_ ⊢
        have HO_5 := n0_
        have BK61001 := n1_
        have BK61015 := n2_
        have HB := n3_
        clear n0_ n1_ n2_ n3_
        have n0_ := Aside0.mk (Kd.R_drew HO_5.out)
        have n1_ := Aside0.mk (blk_drew BK61001.out)
        have n2_ := Aside0.mk (blk_drew BK61015.out)
        have n3_ := Aside0.mk (below_drew1 HB.out)
        clear HO_5
        clear BK61001
        clear BK61015
        clear HB
        have HO_5 := n0_
        have BK61001 := n1_
        have BK61015 := n2_
        have HB := n3_
        clear n0_ n1_ n2_ n3_
        refine start_ (n := 9) (S := fun w' => w'.cell? ⟨gb61001, 0, none⟩ = some (.int .i64 x61002000_1) ∧ w'.cell? ⟨gb61001, 1, none⟩ = some (.int .i64 x61002001_1) ∧ w'.cell? ⟨gb61001, 2, none⟩ = some (.bool x61002002_1) ∧ w'.cell? ⟨gb61015, 0, none⟩ = some (.int .i64 ((rd_T44 x5_1 (ji16)).f0)) ∧ w'.cell? ⟨gb61015, 1, none⟩ = some (.int .i64 ((rd_T44 x5_1 (ji16)).f1)) ∧ w'.cell? ⟨gb61015, 2, none⟩ = some (.bool ((rd_T44 x5_1 (ji16)).f2))) (ds := []) #[false, false, false, false, false, false, false, false, false] (by kernel_rfl) rfl rfl ⟨(blk_cell BK61001.out 0).trans rfl, (blk_cell BK61001.out 1).trans rfl, (blk_cell BK61001.out 2).trans rfl, (blk_cell BK61015.out 0).trans rfl, (blk_cell BK61015.out 1).trans rfl, (blk_cell BK61015.out 2).trans rfl⟩ (fun hHeld => ?_); refine with_tabW papermillref13_more.tab7 papermillref13_more.bits7 (fun HT_ HW_ => ?_)
        generalize w26.drew = w27 at HO_5 BK61001 BK61015 HB hHeld ⊢
        refine pure_ (i := 0) (N := some 32) (v := ?_) (a' := ?_) #[true, false, false, false, false, false, false, false, false] rfl rfl (any_of HT_.out (by kernel_rfl)) (fun _ _ _ h => h) (Or.inl ⟨by rfl, ?_⟩) ?_ ?_
        rotate_left
        ·intro w'
         go_simp
         with_reducible rfl
        rotate_left
        ·simp only [Act.put, List.setIfInBounds_toArray, List.set_cons_zero, List.set_cons_succ, i64_w, i32_w]
         rfl
        refine pure_ (i := 3) (N := some 35) (v := ?_) (a' := ?_) #[true, false, false, true, false, false, false, false, false] rfl rfl (any_of HT_.out (by kernel_rfl)) (fun _ _ _ h => h) (Or.inl ⟨by rfl, ?_⟩) ?_ ?_
        rotate_left
        ·intro w'
         go_simp
         with_reducible rfl
        rotate_left
        ·simp only [Act.put, List.setIfInBounds_toArray, List.set_cons_zero, List.set_cons_succ, i64_w, i32_w]
         rfl
        refine take_ (i := 1) (N := some 33) (v := ?_) (a' := ?_) #[true, true, false, true, false, false, false, false, false] rfl rfl (take_ofW HT_.out HW_.out (by kernel_rfl)) (fun _ _ _ h => h) (Or.inl ⟨by rfl, ?_⟩) hHeld ?_ ?_
        rotate_left
        ·rintro w' ⟨s0, s1, s2, s3, s4, s5⟩
         go_simp
         with_reducible rfl
        rotate_left
        ·simp only [Act.put, List.setIfInBounds_toArray, List.set_cons_zero, List.set_cons_succ, i64_w, i32_w]
         rfl
        refine take_ (i := 2) (N := some 34) (v := ?_) (a' := ?_) #[true, true, true, true, false, false, false, false, false] rfl rfl (take_ofW HT_.out HW_.out (by kernel_rfl)) (fun _ _ _ h => h) (Or.inl ⟨by rfl, ?_⟩) hHeld ?_ ?_
        rotate_left
        ·rintro w' ⟨s0, s1, s2, s3, s4, s5⟩
         go_simp
         with_reducible rfl
        rotate_left
        ·simp only [Act.put, List.setIfInBounds_toArray, List.set_cons_zero, List.set_cons_succ, i64_w, i32_w]
         rfl
        refine take_ (i := 4) (N := some 36) (v := ?_) (a' := ?_) #[true, true, true, true, true, false, false, false, false] rfl rfl (take_ofW HT_.out HW_.out (by kernel_rfl)) (fun _ _ _ h => h) (Or.inl ⟨by rfl, ?_⟩) hHeld ?_ ?_
        rotate_left
        ·rintro w' ⟨s0, s1, s2, s3, s4, s5⟩
         go_simp
         with_reducible rfl
        rotate_left
        ·simp only [Act.put, List.setIfInBounds_toArray, List.set_cons_zero, List.set_cons_succ, i64_w, i32_w]
         rfl
        refine pure_ (i := 5) (N := some 37) (v := ?_) (a' := ?_) #[true, true, true, true, true, true, false, false, false] rfl rfl (any_of HT_.out (by kernel_rfl)) (fun _ _ _ h => h) (Or.inl ⟨by rfl, ?_⟩) ?_ ?_
        rotate_left
        ·intro w'
         go_simp
         with_reducible rfl
        rotate_left
        ·simp only [Act.put, List.setIfInBounds_toArray, List.set_cons_zero, List.set_cons_succ, i64_w, i32_w]
         rfl
        refine one_ (i := 6) (N := some 38) #[true, true, true, true, true, true, true, false, false] rfl rfl (one_of HT_.out (by kernel_rfl)) (by decide) (fun K hK => ?_)
        refine goes_ Try.func48 (by kernel_rfl) rfl #[.agg #[.int .i64 ((rd_T44 x5_1 (ji16)).f0), .int .i64 ((rd_T44 x5_1 (ji16)).f1), .bool ((rd_T44 x5_1 (ji16)).f2)], .int .i64 (wrap64 (((rd_T44 x5_1 (ji16)).f1) - 1))] (by rfl) rfl rfl (by (try simp only [List.map_toArray, List.map_cons, List.map_nil]); first | done | (simp only [hji16]; rfl) | rfl | (simp only [List.length_drop, List.length_take]; rfl)) ?_
        with_reducible refine (papermillref13_image.calls ((rd_T44 x5_1 (ji16)).f0) ((rd_T44 x5_1 (ji16)).f1) ((rd_T44 x5_1 (ji16)).f2) (wrap64 (((rd_T44 x5_1 (ji16)).f1) - 1)) t61016 _ A19.out).mono ?_
        rintro e w28 ⟨rfl, hb⟩
        refine ⟨_, rfl, ?_⟩
        have n0_ := Aside0.mk (Kd.R_below (HO_5.out) hb)
        have n1_ := Aside0.mk (blk_below (g := gb61001) (o := .cells #[.int .i64 x61002000_1, .int .i64 x61002001_1, .bool x61002002_1] 44 (0, 0)) (BK61001.out) hb)
        have n2_ := Aside0.mk (blk_below (g := gb61015) (o := .cells #[.int .i64 ((rd_T44 x5_1 (ji16)).f0), .int .i64 ((rd_T44 x5_1 (ji16)).f1), .bool ((rd_T44 x5_1 (ji16)).f2)] 44 (0, 0)) (BK61015.out) hb)
        have n3_ := Aside0.mk (below_step (by repeat (first | exact HB.out | apply below_alloc | apply pw_below_drewN | apply below_drew1 | refine below_set ?_ GE61001.out | refine below_set ?_ GE61015.out)) hb)
        clear HO_5
        clear BK61001
        clear BK61015
        clear HB
        have HO_5 := n0_
        have BK61001 := n1_
        have BK61015 := n2_
        have HB := n3_
        clear n0_ n1_ n2_ n3_
        (try clear hb)
        (try clear hb2)
        (try clear hk)
        (try clear hi)
        refine hK.out _ _ ⟨(blk_cell BK61001.out 0).trans rfl, (blk_cell BK61001.out 1).trans rfl, (blk_cell BK61001.out 2).trans rfl, (blk_cell BK61015.out 0).trans rfl, (blk_cell BK61015.out 1).trans rfl, (blk_cell BK61015.out 2).trans rfl⟩ (fun hHeld => ?_)
        clear hK K
        refine norm_ (a' := ?_) ?_ ?_
        rotate_left
        ·show Act.put _ (some 38) _ = _
         simp only [Act.put, List.setIfInBounds_toArray, List.set_cons_zero, List.set_cons_succ, i64_w, i32_w]
         rfl
        refine pure_ (i := 7) (N := some 39) (v := ?_) (a' := ?_) #[true, true, true, true, true, true, true, true, false] rfl rfl (any_of HT_.out (by kernel_rfl)) (fun _ _ _ h => h) (Or.inl ⟨by rfl, ?_⟩) ?_ ?_
        rotate_left
        ·intro w'
         go_simp
         with_reducible rfl
        rotate_left
        ·simp only [Act.put, List.setIfInBounds_toArray, List.set_cons_zero, List.set_cons_succ, i64_w, i32_w]
         rfl
        refine pure_ (i := 8) (N := some 8) (v := ?_) (a' := ?_) #[true, true, true, true, true, true, true, true, true] rfl rfl (any_of HT_.out (by kernel_rfl)) (fun _ _ _ h => h) (Or.inl ⟨by rfl, ?_⟩) ?_ ?_
        rotate_left
        ·intro w'
         go_simp
         with_reducible rfl
        rotate_left
        ·simp only [Act.put, List.setIfInBounds_toArray, List.set_cons_zero, List.set_cons_succ, i64_w, i32_w]
         rfl
        refine done_ (done_of HT_.out (by kernel_rfl)) ?_
        go_upto_region 8 with (fail)
        go_cut [57] (fun v57 wc => ∃ (kq : Nat) (x57_19 : Bool), v57 = .bool x57_19 ∧ Aside0 (papermillref13_more.j1 kq x5_1 ji16 (wrap64 (x61002000_1 - t61016)) x57_19 x61002000_1 x61002001_1 x61002002_1 ((rd_T44 x5_1 (ji16)).f0) ((rd_T44 x5_1 (ji16)).f1) ((rd_T44 x5_1 (ji16)).f2) = some r) ∧ Aside0 (kq ≤ k1) ∧ Aside0 (Kd.R k44 44 wc w.heap.size (fun k_ => k_ ≠ gb61001 ∧ k_ ≠ gb61015) (.slice (some ad61014) x5_1.length co22) x5_1) ∧ Aside0 (wc.heap[gb61001]? = some (.cells #[.int .i64 x61002000_1, .int .i64 x61002001_1, .bool x61002002_1] 44 (0, 0))) ∧ Aside0 (wc.heap[gb61015]? = some (.cells #[.int .i64 ((rd_T44 x5_1 (ji16)).f0), .int .i64 ((rd_T44 x5_1 (ji16)).f1), .bool ((rd_T44 x5_1 (ji16)).f2)] 44 (0, 0))) ∧ Aside0 (Below w.heap.size w wc))
        case first =>
         have H := HC20.out
         clear HC20
         by_cases c29 : (wrap64 (x61002000_1 - t61016)) = 1
         ·rw [if_pos c29] at H
          have c29b0 : ((wrap64 (x61002000_1 - t61016)) == 1) = true := beq_iff_eq.mpr c29
          have c29b1 : ((wrap64 (x61002000_1 - t61016)) != 1) = false := bne_eq_false_iff_eq.mpr c29
          clear c29
          (first | rw [c29b0] | (simp only [i64_w, i32_w]; rw [c29b0]) | skip)
          by_cases c30 : ((rd_T44 x5_1 (ji16)).f1) > 1
          ·rw [if_pos c30] at H
           have c30b0 : decide (1 < ((rd_T44 x5_1 (ji16)).f1)) = true := decide_eq_true c30
           clear c30
           have H' := Aside0.mk H
           clear H
           have hnb31 := NB61015_61001.out
           have hnc31 := NB61001_61015.out
           have hcz32_0 : w28.cell? ⟨gb61015, 0, none⟩ = some (.int .i64 ((rd_T44 x5_1 (ji16)).f0)) := (blk_cell BK61015.out 0).trans rfl
           have hcz32_1 : w28.cell? ⟨gb61015, 1, none⟩ = some (.int .i64 ((rd_T44 x5_1 (ji16)).f1)) := (blk_cell BK61015.out 1).trans rfl
           have hcz32_2 : w28.cell? ⟨gb61015, 2, none⟩ = some (.bool ((rd_T44 x5_1 (ji16)).f2)) := (blk_cell BK61015.out 2).trans rfl
           have hfz32_0 := blk_frozen BK61015.out 0
           have hfz32_1 := blk_frozen BK61015.out 1
           have hfz32_2 := blk_frozen BK61015.out 2
           go_wp2
           go_meet
           case rel => exact ⟨_, ((((rd_T44 x5_1 (ji16)).f2) != ((wrap64 (x61002000_1 - t61016)) == (-1)))), (by first | rfl | (simp; done) | (simp only [← hji16] <;> (first | rfl | (simp; done))) | (simp [*]; done)), H', ⟨by have := HK1.out; first | omega | exact Nat.le_refl _⟩, ⟨HO_5.out⟩, ⟨BK61001.out⟩, ⟨BK61015.out⟩, ⟨by repeat (first | exact HB.out | apply below_alloc | apply pw_below_drewN | apply below_drew1 | refine below_set ?_ GE61001.out | refine below_set ?_ GE61015.out)⟩⟩
          ·rw [if_neg c30] at H
           have c30b0 : decide (1 < ((rd_T44 x5_1 (ji16)).f1)) = false := decide_eq_false c30
           clear c30
           have H' := Aside0.mk H
           clear H
           have hnb33 := NB61015_61001.out
           have hnc33 := NB61001_61015.out
           have hcz34_0 : w28.cell? ⟨gb61015, 0, none⟩ = some (.int .i64 ((rd_T44 x5_1 (ji16)).f0)) := (blk_cell BK61015.out 0).trans rfl
           have hcz34_1 : w28.cell? ⟨gb61015, 1, none⟩ = some (.int .i64 ((rd_T44 x5_1 (ji16)).f1)) := (blk_cell BK61015.out 1).trans rfl
           have hcz34_2 : w28.cell? ⟨gb61015, 2, none⟩ = some (.bool ((rd_T44 x5_1 (ji16)).f2)) := (blk_cell BK61015.out 2).trans rfl
           have hfz34_0 := blk_frozen BK61015.out 0
           have hfz34_1 := blk_frozen BK61015.out 1
           have hfz34_2 := blk_frozen BK61015.out 2
           go_wp2
           go_meet
           case rel => exact ⟨_, (false), (by first | rfl | (simp; done) | (simp [*]; done)), H', ⟨by have := HK1.out; first | omega | exact Nat.le_refl _⟩, ⟨HO_5.out⟩, ⟨BK61001.out⟩, ⟨BK61015.out⟩, ⟨by repeat (first | exact HB.out | apply below_alloc | apply pw_below_drewN | apply below_drew1 | refine below_set ?_ GE61001.out | refine below_set ?_ GE61015.out)⟩⟩
         ·rw [if_neg c29] at H
          have c29b0 : ((wrap64 (x61002000_1 - t61016)) == 1) = false := beq_eq_false_iff_ne.mpr c29
          have c29b1 : ((wrap64 (x61002000_1 - t61016)) != 1) = true := bne_iff_ne.mpr c29
          (first | rw [c29b0] | (simp only [i64_w, i32_w]; rw [c29b0]) | skip)
          by_cases c35 : (wrap64 (x61002000_1 - t61016)) = (-1)
          ·rw [if_pos c35] at H
           have c35b0 : ((wrap64 (x61002000_1 - t61016)) == (-1)) = true := beq_iff_eq.mpr c35
           have c35b1 : ((wrap64 (x61002000_1 - t61016)) != (-1)) = false := bne_eq_false_iff_eq.mpr c35
           clear c35
           by_cases c36 : ((rd_T44 x5_1 (ji16)).f1) > 1
           ·rw [if_pos c36] at H
            have c36b0 : decide (1 < ((rd_T44 x5_1 (ji16)).f1)) = true := decide_eq_true c36
            clear c36
            have H' := Aside0.mk H
            clear H
            have hnb37 := NB61015_61001.out
            have hnc37 := NB61001_61015.out
            have hcz38_0 : w28.cell? ⟨gb61015, 0, none⟩ = some (.int .i64 ((rd_T44 x5_1 (ji16)).f0)) := (blk_cell BK61015.out 0).trans rfl
            have hcz38_1 : w28.cell? ⟨gb61015, 1, none⟩ = some (.int .i64 ((rd_T44 x5_1 (ji16)).f1)) := (blk_cell BK61015.out 1).trans rfl
            have hcz38_2 : w28.cell? ⟨gb61015, 2, none⟩ = some (.bool ((rd_T44 x5_1 (ji16)).f2)) := (blk_cell BK61015.out 2).trans rfl
            have hfz38_0 := blk_frozen BK61015.out 0
            have hfz38_1 := blk_frozen BK61015.out 1
            have hfz38_2 := blk_frozen BK61015.out 2
            go_wp2
            go_meet
            case rel => exact ⟨_, ((((rd_T44 x5_1 (ji16)).f2) != ((wrap64 (x61002000_1 - t61016)) == (-1)))), (by first | rfl | (simp; done) | (simp only [← hji16] <;> (first | rfl | (simp; done))) | (simp [*]; done)), H', ⟨by have := HK1.out; first | omega | exact Nat.le_refl _⟩, ⟨HO_5.out⟩, ⟨BK61001.out⟩, ⟨BK61015.out⟩, ⟨by repeat (first | exact HB.out | apply below_alloc | apply pw_below_drewN | apply below_drew1 | refine below_set ?_ GE61001.out | refine below_set ?_ GE61015.out)⟩⟩
           ·rw [if_neg c36] at H
            have c36b0 : decide (1 < ((rd_T44 x5_1 (ji16)).f1)) = false := decide_eq_false c36
            clear c36
            have H' := Aside0.mk H
            clear H
            have hnb39 := NB61015_61001.out
            have hnc39 := NB61001_61015.out
            have hcz40_0 : w28.cell? ⟨gb61015, 0, none⟩ = some (.int .i64 ((rd_T44 x5_1 (ji16)).f0)) := (blk_cell BK61015.out 0).trans rfl
            have hcz40_1 : w28.cell? ⟨gb61015, 1, none⟩ = some (.int .i64 ((rd_T44 x5_1 (ji16)).f1)) := (blk_cell BK61015.out 1).trans rfl
            have hcz40_2 : w28.cell? ⟨gb61015, 2, none⟩ = some (.bool ((rd_T44 x5_1 (ji16)).f2)) := (blk_cell BK61015.out 2).trans rfl
            have hfz40_0 := blk_frozen BK61015.out 0
            have hfz40_1 := blk_frozen BK61015.out 1
            have hfz40_2 := blk_frozen BK61015.out 2
            go_wp2
            go_meet
            case rel => exact ⟨_, (false), (by first | rfl | (simp; done) | (simp [*]; done)), H', ⟨by have := HK1.out; first | omega | exact Nat.le_refl _⟩, ⟨HO_5.out⟩, ⟨BK61001.out⟩, ⟨BK61015.out⟩, ⟨by repeat (first | exact HB.out | apply below_alloc | apply pw_below_drewN | apply below_drew1 | refine below_set ?_ GE61001.out | refine below_set ?_ GE61015.out)⟩⟩
          ·rw [if_neg c35] at H
           have c35b0 : ((wrap64 (x61002000_1 - t61016)) == (-1)) = false := beq_eq_false_iff_ne.mpr c35
           have c35b1 : ((wrap64 (x61002000_1 - t61016)) != (-1)) = true := bne_iff_ne.mpr c35
           have H' := Aside0.mk H
           clear H
           go_wp2
           go_meet
           case rel => exact ⟨_, (true), (by first | rfl | (simp; done) | (simp [*]; done)), H', ⟨by have := HK1.out; first | omega | exact Nat.le_refl _⟩, ⟨HO_5.out⟩, ⟨BK61001.out⟩, ⟨BK61015.out⟩, ⟨by repeat (first | exact HB.out | apply below_alloc | apply pw_below_drewN | apply below_drew1 | refine below_set ?_ GE61001.out | refine below_set ?_ GE61015.out)⟩⟩
        case rest =>
         clear HC20
         try clear c1
         try clear c2
         try clear p2
         try clear c3
         try clear c4
         try clear c6
         try clear p6
         try clear q6
         try clear hx6
         try clear c7
         try clear c8
         try clear c8b0
         try clear c9
         try clear c9b0
         try clear c11
         try clear c17
         try clear c17b0
         try clear c18
         try clear c18b0
         try clear c24
         try clear c29
         try clear c29b0
         try clear c29b1
         try clear c30
         try clear c30b0
         try clear c31
         try clear c33
         try clear c35
         try clear c35b0
         try clear c35b1
         try clear c36
         try clear c36b0
         try clear c37
         try clear c39
         try clear hcz12_0
         try clear hcz12_1
         try clear hcz12_2
         try clear hcz21_0
         try clear hcz21_1
         try clear hcz21_2
         try clear hcz25_0
         try clear hcz25_1
         try clear hcz25_2
         try clear hcz32_0
         try clear hcz32_1
         try clear hcz32_2
         try clear hcz34_0
         try clear hcz34_1
         try clear hcz34_2
         try clear hcz38_0
         try clear hcz38_1
         try clear hcz38_2
         try clear hcz40_0
         try clear hcz40_1
         try clear hcz40_2
         try clear hfz12_0
         try clear hfz12_1
         try clear hfz12_2
         try clear hfz21_0
         try clear hfz21_1
         try clear hfz21_2
         try clear hfz25_0
         try clear hfz25_1
         try clear hfz25_2
         try clear hfz32_0
         try clear hfz32_1
         try clear hfz32_2
         try clear hfz34_0
         try clear hfz34_1
         try clear hfz34_2
         try clear hfz38_0
         try clear hfz38_1
         try clear hfz38_2
         try clear hfz40_0
         try clear hfz40_1
         try clear hfz40_2
         try clear hx61014_0
         try clear hx61014_1
         try clear hx61014_2
         try clear p2
         try clear p61014
         try clear q61014
         obtain ⟨kq, x57_19, rfl, HA, HJ19, HO_5, BK61001, BK61015, HB⟩ := hcut
         cases kq with
         | zero => exact absurd HA.out (by simp [papermillref13_more.j1])
         | succ kj19 =>
          have H := HA.out
          clear HA
          simp only [papermillref13_more.j1] at H
          by_cases c41 : x57_19 = true
          ·subst c41
           have H1 : ((papermillref13_cut.f x61002000_1 x61002001_1 x61002002_1 0 x61002001_1).bind fun bt61017 => (if x5_1.length < 5864062014805 then (some (x5_1 ++ [(⟨bt61017.1, bt61017.2.1, bt61017.2.2⟩ : S44)])) else (none))) = some r := by rw [if_pos rfl] at H; exact H
           clear H
           have H := H1
           clear H1
           replace H := Option.bind_eq_some_iff.mp H
           obtain ⟨⟨t61017, t61018, t61019⟩, A420, H⟩ := H
           replace H : (if x5_1.length < 5864062014805 then (some (x5_1 ++ [(⟨t61017, t61018, t61019⟩ : S44)])) else (none)) = some r := H
           have A42 := Aside0.mk A420
           clear A420
           by_cases c43 : x5_1.length < 5864062014805
           ·rw [if_pos c43] at H
            have LMc43 := Aside0.mk c43
            clear c43
            obtain ⟨y61020, hy61020⟩ : ∃ y_ : List (S44), y_ = (x5_1 ++ [(⟨t61017, t61018, t61019⟩ : S44)]) := ⟨_, rfl⟩
            replace H : (some y61020) = some r := by first | (rw [hy61020]; with_reducible exact H) | (have H2_ := (Option.bind_some _ _).symm.trans H; rw [hy61020]; with_reducible exact H2_) | (have H2_ := (Option.bind_some _ _).symm.trans H; with_reducible exact H2_) | with_reducible exact H | (rw [hy61020]; exact H) | exact H
            have Ny61020 := Aside0.mk hy61020
            clear hy61020
            obtain rfl := Option.some.inj H
            have hnb44 := NB61001_61015.out
            have hnc44 := NB61015_61001.out
            have hcz45_0 : wc.cell? ⟨gb61001, 0, none⟩ = some (.int .i64 x61002000_1) := (blk_cell BK61001.out 0).trans rfl
            have hcz45_1 : wc.cell? ⟨gb61001, 1, none⟩ = some (.int .i64 x61002001_1) := (blk_cell BK61001.out 1).trans rfl
            have hcz45_2 : wc.cell? ⟨gb61001, 2, none⟩ = some (.bool x61002002_1) := (blk_cell BK61001.out 2).trans rfl
            have hfz45_0 := blk_frozen BK61001.out 0
            have hfz45_1 := blk_frozen BK61001.out 1
            have hfz45_2 := blk_frozen BK61001.out 2
            go_wp2_with (first | ((with_reducible refine gate_callee (f := 72) rfl ?_); refine goesL_ (some 62) rfl rfl Try.func72 (by kernel_rfl) rfl #[.agg #[.int .i64 x61002000_1, .int .i64 x61002001_1, .bool x61002002_1], .int .i64 0, .int .i64 x61002001_1] rfl (by (try simp only [List.map_toArray, List.map_cons, List.map_nil]); first | done | rfl | (simp only [List.length_drop, List.length_take]; rfl)) ?_; (with_reducible refine (papermillref13_cut.calls x61002000_1 x61002001_1 x61002002_1 0 x61002001_1 t61017 t61018 t61019 _ A42.out).mono ?_); rintro e w46 ⟨rfl, hb⟩; refine ⟨_, rfl, ?_⟩; have n0_ := Aside0.mk (Kd.R_below (HO_5.out) hb); have n1_ := Aside0.mk (blk_below (g := gb61001) (o := .cells #[.int .i64 x61002000_1, .int .i64 x61002001_1, .bool x61002002_1] 44 (0, 0)) (BK61001.out) hb); have n2_ := Aside0.mk (blk_below (g := gb61015) (o := .cells #[.int .i64 ((rd_T44 x5_1 (ji16)).f0), .int .i64 ((rd_T44 x5_1 (ji16)).f1), .bool ((rd_T44 x5_1 (ji16)).f2)] 44 (0, 0)) (BK61015.out) hb); have n3_ := Aside0.mk (below_step (by repeat (first | exact HB.out | apply below_alloc | apply pw_below_drewN | apply below_drew1 | refine below_set ?_ GE61001.out | refine below_set ?_ GE61015.out)) hb); clear HO_5; clear BK61001; clear BK61015; clear HB; have HO_5 := n0_; have BK61001 := n1_; have BK61015 := n2_; have HB := n3_; clear n0_ n1_ n2_ n3_; (try clear hb); (try clear hb2); (try clear hk); (try clear hi)) | ((with_reducible refine gate_builtin (b := .append) (xs := #[.tmp 58, .tmp 63]) rfl ?_); at_builtin; refine Kd.R_append k44 (w0 := w) w.heap.size rfl (.tmp 58) (.tmp 63) 22 44 (.agg #[(.int .i64 0), (.int .i64 0), (.bool false)]) 24 rfl Try.underlying22 info44 rfl (by decide) (by omega) (.slice (some ad61014) x5_1.length co22) x5_1 (⟨t61017, t61018, t61019⟩ : S44) [.int .i64 t61017, .int .i64 t61018, .bool t61019] (fun k_ => k_ ≠ gb61001 ∧ k_ ≠ gb61015) (fun _ => False) rfl rfl ?aP (fun _ hk => hk.elim) ?aF ?aO ?aB ?aS ?aL ?_; (case aP => exact k44_mkM _ _ _ (⟨t61017, t61018, t61019⟩ : S44)); (case aB => exact (by repeat (first | exact HB.out | apply below_alloc | apply pw_below_drewN | apply below_drew1 | refine below_set ?_ GE61001.out | refine below_set ?_ GE61015.out))); (case aF => exact (fun k_ hk => ⟨Kd.freshB (g := gb61001) (o := .cells #[.int .i64 x61002000_1, .int .i64 x61002001_1, .bool x61002002_1] 44 (0, 0)) (BK61001.out) k_ hk, Kd.freshB (g := gb61015) (o := .cells #[.int .i64 ((rd_T44 x5_1 (ji16)).f0), .int .i64 ((rd_T44 x5_1 (ji16)).f1), .bool ((rd_T44 x5_1 (ji16)).f2)] 44 (0, 0)) (BK61015.out) k_ hk⟩)); (case aO => exact (HO_5.out)); (case aS => exact (below_size (by repeat (first | exact HB.out | apply below_alloc | apply pw_below_drewN | apply below_drew1 | refine below_set ?_ GE61001.out | refine below_set ?_ GE61015.out)))); (case aL => have := LMc43.out; omega); intro v61021 w47 ho hb hg hat; rw [← Ny61020.out] at ho; have n0_ := Aside0.mk (blk_grown (g := gb61001) (o := .cells #[.int .i64 x61002000_1, .int .i64 x61002001_1, .bool x61002002_1] 44 (0, 0)) (BK61001.out) hg (Kd.R_away HO_5.out (fun _ hk => hk.1))); have n1_ := Aside0.mk (blk_grown (g := gb61015) (o := .cells #[.int .i64 ((rd_T44 x5_1 (ji16)).f0), .int .i64 ((rd_T44 x5_1 (ji16)).f1), .bool ((rd_T44 x5_1 (ji16)).f2)] 44 (0, 0)) (BK61015.out) hg (Kd.R_away HO_5.out (fun _ hk => hk.2))); have n2_ := Aside0.mk (hb); have n3_ := Aside0.mk (ho); clear BK61001; clear BK61015; clear HB; clear HO_5; have BK61001 := n0_; have BK61015 := n1_; have HB := n2_; have HO61022 := n3_; clear n0_ n1_ n2_ n3_; clear ho hb hg hat))
            go_ret
            exact ⟨_, by first | rfl | (simp [errW_none, errW_some] <;> rfl) | (simp only [← hji16]; first | rfl | (simp [errW_none, errW_some] <;> rfl)) | (simp [*, errW_none, errW_some] <;> rfl), by exact Kd.R_mono HO61022.out (fun _ hk => trivial), by repeat (first | exact HB.out | apply below_alloc | apply pw_below_drewN | apply below_drew1 | refine below_set ?_ GE61001.out | refine below_set ?_ GE61015.out)⟩
           ·rw [if_neg c43] at H
            exact absurd H (by simp)
          ·replace c41 := Bool.eq_false_iff.mpr c41
           subst c41
           have H1 : (if x61002001_1 > 1 then (papermillref13_more.j2 kj19 x5_1 ji16 (wrap64 (x61002000_1 - t61016)) x61002001_1 (x61002002_1 != ((wrap64 (x61002000_1 - t61016)) == (-1))) x61002000_1 x61002001_1 x61002002_1 ((rd_T44 x5_1 (ji16)).f0) ((rd_T44 x5_1 (ji16)).f1) ((rd_T44 x5_1 (ji16)).f2)) else (papermillref13_more.j2 kj19 x5_1 ji16 (wrap64 (x61002000_1 - t61016)) x61002001_1 false x61002000_1 x61002001_1 x61002002_1 ((rd_T44 x5_1 (ji16)).f0) ((rd_T44 x5_1 (ji16)).f1) ((rd_T44 x5_1 (ji16)).f2))) = some r := by rw [if_neg (show ¬ (false = true) by decide)] at H; first | exact H | simpa using H
           clear H
           have H := H1
           clear H1
           have HC48 := Aside0.mk H
           clear H
           have hnb49 := NB61001_61015.out
           have hnc49 := NB61015_61001.out
           have hcz50_0 : wc.cell? ⟨gb61001, 0, none⟩ = some (.int .i64 x61002000_1) := (blk_cell BK61001.out 0).trans rfl
           have hcz50_1 : wc.cell? ⟨gb61001, 1, none⟩ = some (.int .i64 x61002001_1) := (blk_cell BK61001.out 1).trans rfl
           have hcz50_2 : wc.cell? ⟨gb61001, 2, none⟩ = some (.bool x61002002_1) := (blk_cell BK61001.out 2).trans rfl
           have hfz50_0 := blk_frozen BK61001.out 0
           have hfz50_1 := blk_frozen BK61001.out 1
           have hfz50_2 := blk_frozen BK61001.out 2
           go_upto_region 11 with (fail)
           go_cut [75] (fun v75 wc => ∃ (kq : Nat) (x75_47 : Bool), v75 = .bool x75_47 ∧ Aside0 (papermillref13_more.j2 kq x5_1 ji16 (wrap64 (x61002000_1 - t61016)) x61002001_1 x75_47 x61002000_1 x61002001_1 x61002002_1 ((rd_T44 x5_1 (ji16)).f0) ((rd_T44 x5_1 (ji16)).f1) ((rd_T44 x5_1 (ji16)).f2) = some r) ∧ Aside0 (kq ≤ kj19) ∧ Aside0 (Kd.R k44 44 wc w.heap.size (fun k_ => k_ ≠ gb61001 ∧ k_ ≠ gb61015) (.slice (some ad61014) x5_1.length co22) x5_1) ∧ Aside0 (wc.heap[gb61001]? = some (.cells #[.int .i64 x61002000_1, .int .i64 x61002001_1, .bool x61002002_1] 44 (0, 0))) ∧ Aside0 (wc.heap[gb61015]? = some (.cells #[.int .i64 ((rd_T44 x5_1 (ji16)).f0), .int .i64 ((rd_T44 x5_1 (ji16)).f1), .bool ((rd_T44 x5_1 (ji16)).f2)] 44 (0, 0))) ∧ Aside0 (Below w.heap.size w wc))
           case first =>
            have H := HC48.out
            clear HC48
            by_cases c51 : x61002001_1 > 1
            ·rw [if_pos c51] at H
             have c51b0 : decide (1 < x61002001_1) = true := decide_eq_true c51
             clear c51
             (first | rw [c51b0] | (simp only [i64_w, i32_w]; rw [c51b0]) | skip)
             have H' := Aside0.mk H
             clear H
             have hnb52 := NB61001_61015.out
             have hnc52 := NB61015_61001.out
             have hcz53_0 : wc.cell? ⟨gb61001, 0, none⟩ = some (.int .i64 x61002000_1) := (blk_cell BK61001.out 0).trans rfl
             have hcz53_1 : wc.cell? ⟨gb61001, 1, none⟩ = some (.int .i64 x61002001_1) := (blk_cell BK61001.out 1).trans rfl
             have hcz53_2 : wc.cell? ⟨gb61001, 2, none⟩ = some (.bool x61002002_1) := (blk_cell BK61001.out 2).trans rfl
             have hfz53_0 := blk_frozen BK61001.out 0
             have hfz53_1 := blk_frozen BK61001.out 1
             have hfz53_2 := blk_frozen BK61001.out 2
             go_wp2
             go_meet
             case rel => exact ⟨_, ((x61002002_1 != ((wrap64 (x61002000_1 - t61016)) == (-1)))), (by first | rfl | (simp; done) | (simp [*]; done)), H', ⟨by have := HK1.out; have := HJ19.out; first | omega | exact Nat.le_refl _⟩, ⟨HO_5.out⟩, ⟨BK61001.out⟩, ⟨BK61015.out⟩, ⟨by repeat (first | exact HB.out | apply below_alloc | apply pw_below_drewN | apply below_drew1 | refine below_set ?_ GE61001.out | refine below_set ?_ GE61015.out)⟩⟩
            ·rw [if_neg c51] at H
             have c51b0 : decide (1 < x61002001_1) = false := decide_eq_false c51
             clear c51
             (first | rw [c51b0] | (simp only [i64_w, i32_w]; rw [c51b0]) | skip)
             have H' := Aside0.mk H
             clear H
             go_wp2
             go_meet
             case rel => exact ⟨_, (false), (by first | rfl | (simp; done) | (simp [*]; done)), H', ⟨by have := HK1.out; have := HJ19.out; first | omega | exact Nat.le_refl _⟩, ⟨HO_5.out⟩, ⟨BK61001.out⟩, ⟨BK61015.out⟩, ⟨by repeat (first | exact HB.out | apply below_alloc | apply pw_below_drewN | apply below_drew1 | refine below_set ?_ GE61001.out | refine below_set ?_ GE61015.out)⟩⟩
           case rest =>
            clear HC48
            try clear c1
            try clear c2
            try clear p2
            try clear c3
            try clear c4
            try clear c5
            try clear c6
            try clear p6
            try clear q6
            try clear hx6
            try clear c7
            try clear c8
            try clear c8b0
            try clear c9
            try clear c9b0
            try clear c11
            try clear c17
            try clear c17b0
            try clear c18
            try clear c18b0
            try clear c24
            try clear c29
            try clear c29b0
            try clear c29b1
            try clear c30
            try clear c30b0
            try clear c31
            try clear c33
            try clear c35
            try clear c35b0
            try clear c35b1
            try clear c36
            try clear c36b0
            try clear c37
            try clear c39
            try clear c41
            try clear c43
            try clear c44
            try clear c48
            try clear c49
            try clear c51
            try clear c51b0
            try clear c52
            try clear hcz12_0
            try clear hcz12_1
            try clear hcz12_2
            try clear hcz21_0
            try clear hcz21_1
            try clear hcz21_2
            try clear hcz25_0
            try clear hcz25_1
            try clear hcz25_2
            try clear hcz32_0
            try clear hcz32_1
            try clear hcz32_2
            try clear hcz34_0
            try clear hcz34_1
            try clear hcz34_2
            try clear hcz38_0
            try clear hcz38_1
            try clear hcz38_2
            try clear hcz40_0
            try clear hcz40_1
            try clear hcz40_2
            try clear hcz45_0
            try clear hcz45_1
            try clear hcz45_2
            try clear hcz50_0
            try clear hcz50_1
            try clear hcz50_2
            try clear hcz53_0
            try clear hcz53_1
            try clear hcz53_2
            try clear hfz12_0
            try clear hfz12_1
            try clear hfz12_2
            try clear hfz21_0
            try clear hfz21_1
            try clear hfz21_2
            try clear hfz25_0
            try clear hfz25_1
            try clear hfz25_2
            try clear hfz32_0
            try clear hfz32_1
            try clear hfz32_2
            try clear hfz34_0
            try clear hfz34_1
            try clear hfz34_2
            try clear hfz38_0
            try clear hfz38_1
            try clear hfz38_2
            try clear hfz40_0
            try clear hfz40_1
            try clear hfz40_2
            try clear hfz45_0
            try clear hfz45_1
            try clear hfz45_2
            try clear hfz50_0
            try clear hfz50_1
            try clear hfz50_2
            try clear hfz53_0
            try clear hfz53_1
            try clear hfz53_2
            try clear hx61014_0
            try clear hx61014_1
            try clear hx61014_2
            try clear p2
            try clear p6
            try clear p61014
            try clear q6
            try clear q61014
            obtain ⟨kq, x75_47, rfl, HA, HJ47, HO_5, BK61001, BK61015, HB⟩ := hcut
            cases kq with
            | zero => exact absurd HA.out (by simp [papermillref13_more.j2])
            | succ kj47 =>
             have H := HA.out
             clear HA
             simp only [papermillref13_more.j2] at H
             by_cases c54 : x75_47 = true
             ·subst c54
              have H1 : (if 0 ≤ ji16 then (if ji16 < (x5_1.length : Int) then ((some (x5_1.set (ji16 : Int).toNat (⟨((rd_T44 x5_1 (ji16)).f0), wrap64 (((rd_T44 x5_1 (ji16)).f1) + 1), ((wrap64 (x61002000_1 - t61016)) == (-1))⟩ : S44) : List (S44))).bind fun y61023 => (if 1 = x61002001_1 then (some y61023) else ((papermillref13_cut.f x61002000_1 x61002001_1 x61002002_1 1 (wrap64 (x61002001_1 - 1))).bind fun bt61024 => (papermillref13_more.l0 kj47 y61023 bt61024.1 bt61024.2.1 bt61024.2.2)))) else (none)) else (none)) = some r := by rw [if_pos rfl] at H; exact H
              clear H
              have H := H1
              clear H1
              by_cases c55 : 0 ≤ ji16
              ·rw [if_pos c55] at H
               have c55b0 : decide (0 ≤ ji16) = true := decide_eq_true c55
               clear c55
               by_cases c56 : ji16 < (x5_1.length : Int)
               ·rw [if_pos c56] at H
                have c56b0 : decide (ji16 < (x5_1.length : Int)) = true := decide_eq_true c56
                clear c56
                obtain ⟨y61023, hy61023⟩ : ∃ y_ : List (S44), y_ = (x5_1.set (ji16 : Int).toNat (⟨((rd_T44 x5_1 (ji16)).f0), wrap64 (((rd_T44 x5_1 (ji16)).f1) + 1), ((wrap64 (x61002000_1 - t61016)) == (-1))⟩ : S44)) := ⟨_, rfl⟩
                replace H : (if 1 = x61002001_1 then (some y61023) else ((papermillref13_cut.f x61002000_1 x61002001_1 x61002002_1 1 (wrap64 (x61002001_1 - 1))).bind fun bt61024 => (papermillref13_more.l0 kj47 y61023 bt61024.1 bt61024.2.1 bt61024.2.2))) = some r := by first | (rw [hy61023]; with_reducible exact H) | (have H2_ := (Option.bind_some _ _).symm.trans H; rw [hy61023]; with_reducible exact H2_) | (have H2_ := (Option.bind_some _ _).symm.trans H; with_reducible exact H2_) | with_reducible exact H | (rw [hy61023]; exact H) | exact H
                have Ny61023 := Aside0.mk hy61023
                clear hy61023
                by_cases c58 : 1 = x61002001_1
                ·rw [if_pos c58] at H
                 have c58b0 : (1 == x61002001_1) = true := beq_iff_eq.mpr c58
                 have c58b1 : (1 != x61002001_1) = false := bne_eq_false_iff_eq.mpr c58
                 clear c58
                 obtain rfl := Option.some.inj H
                 have hnb59 := NB61015_61001.out
                 have hnc59 := NB61001_61015.out
                 have hcz60_0 : wc.cell? ⟨gb61015, 0, none⟩ = some (.int .i64 ((rd_T44 x5_1 (ji16)).f0)) := (blk_cell BK61015.out 0).trans rfl
                 have hcz60_1 : wc.cell? ⟨gb61015, 1, none⟩ = some (.int .i64 ((rd_T44 x5_1 (ji16)).f1)) := (blk_cell BK61015.out 1).trans rfl
                 have hcz60_2 : wc.cell? ⟨gb61015, 2, none⟩ = some (.bool ((rd_T44 x5_1 (ji16)).f2)) := (blk_cell BK61015.out 2).trans rfl
                 have hfz60_0 := blk_frozen BK61015.out 0
                 have hfz60_1 := blk_frozen BK61015.out 1
                 have hfz60_2 := blk_frozen BK61015.out 2
                 have p57 : 0 ≤ (ji16 : Int) := of_decide_eq_true (by assumption)
                 have q57 : (ji16 : Int) < ((x5_1.length : Int) : Int) := of_decide_eq_true (by assumption)
                 obtain ⟨go57, co57, eo57, gb57, gl57, cl57, HG57⟩ := Kd.R_form HO_5.out (by omega)
                 (first | cases eo57 | (injection eo57 with ea_ en_ ec_; (first | subst ea_ | (injection ea_ with ea_; subst ea_)); subst ec_; clear en_))
                 have GB57 := Aside0.mk gb57
                 have GG57 := Aside0.mk HG57
                 clear gb57 gl57 HG57
                 (first | simp only [add_plain] at hx61014_0 | skip)
                 (first | simp only [add_plain] at hx61014_1 | skip)
                 (first | simp only [add_plain] at hx61014_2 | skip)
                 obtain ⟨ce57, hcl57, hM57, hcc57, hfr57⟩ := Kd.R_elem HO_5.out z44 (ji16 : Int) p57 q57
                 obtain rfl := k44_openM hM57
                 have hx57_0 : wc.cell? ⟨go57, (ji16 : Int).toNat * 3, none⟩ = some (.int .i64 ((rd_T44 x5_1 ji16).f0)) := hcc57 0 _ rfl
                 have hx57_1 : wc.cell? ⟨go57, (ji16 : Int).toNat * 3 + 1, none⟩ = some (.int .i64 ((rd_T44 x5_1 ji16).f1)) := hcc57 1 _ rfl
                 have hx57_2 : wc.cell? ⟨go57, (ji16 : Int).toNat * 3 + 2, none⟩ = some (.bool ((rd_T44 x5_1 ji16).f2)) := hcc57 2 _ rfl
                 have hf57_0 : wc.frozen? ⟨go57, (ji16 : Int).toNat * 3, none⟩ = false := hfr57 0
                 have hf57_1 : wc.frozen? ⟨go57, (ji16 : Int).toNat * 3 + 1, none⟩ = false := hfr57 1
                 have hf57_2 : wc.frozen? ⟨go57, (ji16 : Int).toNat * 3 + 2, none⟩ = false := hfr57 2
                 clear hcl57 hcc57 hfr57 hM57
                 replace p57 := eq_true p57
                 replace q57 := eq_true q57
                 have HX61 := Aside0.mk (show Kd.R k44 44 wc w.heap.size (fun k_ => k_ ≠ gb61001 ∧ k_ ≠ gb61015) (.slice (some ⟨go57, 0, none⟩) x5_1.length co22) x5_1 from (HO_5.out))
                 obtain ⟨ce61, hcl61, hM61, hcc61, hfr61⟩ := Kd.R_elem HX61.out z44 (ji16 : Int) (of_decide_eq_true (by assumption)) (by have h_ : (ji16 : Int) < ((x5_1.length : Int) : Int) := of_decide_eq_true (by assumption); first | exact h_ | (have e_ := (Kd.R_reads' HO_5.out).1; omega) | simpa using h_)
                 obtain rfl := k44_openM hM61
                 have HP61 := Kd.R_seg HX61.out (ji16 : Int) (of_decide_eq_true (by assumption)) (by have h_ : (ji16 : Int) < ((x5_1.length : Int) : Int) := of_decide_eq_true (by assumption); first | exact h_ | (have e_ := (Kd.R_reads' HO_5.out).1; omega) | simpa using h_) (seg := [.int .i64 ((rd_T44 x5_1 (ji16)).f0), .int .i64 (wrap64 (((rd_T44 x5_1 (ji16)).f1) + 1)), .bool ((wrap64 (x61002000_1 - t61016)) == (-1))]) (j := 0) hcl61 hcc61 (show 3 ≤ 3 from by decide) (x' := (⟨((rd_T44 x5_1 (ji16)).f0), wrap64 (((rd_T44 x5_1 (ji16)).f1) + 1), ((wrap64 (x61002000_1 - t61016)) == (-1))⟩ : S44)) (k44_mkM _ _ _ (⟨((rd_T44 x5_1 (ji16)).f0), wrap64 (((rd_T44 x5_1 (ji16)).f1) + 1), ((wrap64 (x61002000_1 - t61016)) == (-1))⟩ : S44) ) (fun _ hk => hk)
                 have hx61_0 := hcc61 0 _ rfl
                 (try simp only [show (k44).sz = 3 from rfl, Nat.mul_one, Nat.add_zero] at hx61_0)
                 have hf61_0 := hfr61 0
                 (try simp only [show (k44).sz = 3 from rfl, Nat.mul_one, Nat.add_zero] at hf61_0)
                 have hx61_1 := hcc61 1 _ rfl
                 (try simp only [show (k44).sz = 3 from rfl, Nat.mul_one, Nat.add_zero] at hx61_1)
                 have hf61_1 := hfr61 1
                 (try simp only [show (k44).sz = 3 from rfl, Nat.mul_one, Nat.add_zero] at hf61_1)
                 have hx61_2 := hcc61 2 _ rfl
                 (try simp only [show (k44).sz = 3 from rfl, Nat.mul_one, Nat.add_zero] at hx61_2)
                 have hf61_2 := hfr61 2
                 (try simp only [show (k44).sz = 3 from rfl, Nat.mul_one, Nat.add_zero] at hf61_2)
                 clear hcl61 hcc61 hfr61 hM61
                 go_wp2_with (first | ((with_reducible refine gate_store (t := 44) (p := 87) rfl ?_); refine store_event (t := 44) (p := 87) (v := ?vo_w62) (w1 := (((wc.setCell ⟨go57, (ji16 : Int).toNat * 3, none⟩ (.int .i64 ((rd_T44 x5_1 (ji16)).f0))).setCell ⟨go57, (ji16 : Int).toNat * 3 + 1, none⟩ (.int .i64 (wrap64 (((rd_T44 x5_1 (ji16)).f1) + 1)))).setCell ⟨go57, (ji16 : Int).toNat * 3 + 2, none⟩ (.bool ((wrap64 (x61002000_1 - t61016)) == (-1))))) ?hg ?ho ?hn ?hr ?_; (case ho => rfl); (case hg => rfl); (case hn => rfl); (case hr => first | (go_simp; done) | (go_simp; rfl)); intro w62 hw; have hg : wc.grownBy w62 (some go57) := (by rw [hw]; exact HP61.2); have hp_ : Kd.R k44 44 w62 w.heap.size (fun k_ => k_ ≠ gb61001 ∧ k_ ≠ gb61015) (.slice (some ⟨go57, 0, none⟩) x5_1.length co22) y61023 := (by rw [hw, Ny61023.out]; exact HP61.1); clear HP61; have n0_ := Aside0.mk (hp_); have n1_ := Aside0.mk (blk_grown (g := gb61001) (o := .cells #[.int .i64 x61002000_1, .int .i64 x61002001_1, .bool x61002002_1] 44 (0, 0)) (BK61001.out) hg (Kd.R_away HO_5.out (fun _ hk => hk.1))); have n2_ := Aside0.mk (blk_grown (g := gb61015) (o := .cells #[.int .i64 ((rd_T44 x5_1 (ji16)).f0), .int .i64 ((rd_T44 x5_1 (ji16)).f1), .bool ((rd_T44 x5_1 (ji16)).f2)] 44 (0, 0)) (BK61015.out) hg (Kd.R_away HO_5.out (fun _ hk => hk.2))); have n3_ := Aside0.mk ((by rw [hw]; exact below_set (below_set (below_set (HB.out) GB57.out) GB57.out) GB57.out : Below w.heap.size w w62)); clear HO_5; clear BK61001; clear BK61015; clear HB; have HO_5 := n0_; have BK61001 := n1_; have BK61015 := n2_; have HB := n3_; clear n0_ n1_ n2_ n3_; clear hg hw hp_; have hcz63_0 : w62.cell? ⟨gb61001, 0, none⟩ = some (.int .i64 x61002000_1) := (blk_cell BK61001.out 0).trans rfl; have hcz63_1 : w62.cell? ⟨gb61001, 1, none⟩ = some (.int .i64 x61002001_1) := (blk_cell BK61001.out 1).trans rfl; have hcz63_2 : w62.cell? ⟨gb61001, 2, none⟩ = some (.bool x61002002_1) := (blk_cell BK61001.out 2).trans rfl; have hfz63_0 := blk_frozen BK61001.out 0; have hfz63_1 := blk_frozen BK61001.out 1; have hfz63_2 := blk_frozen BK61001.out 2))
                 go_ret
                 exact ⟨_, by first | rfl | (simp [errW_none, errW_some] <;> rfl) | (simp only [← hji16]; first | rfl | (simp [errW_none, errW_some] <;> rfl)) | (simp [*, errW_none, errW_some] <;> rfl), by exact Kd.R_mono HO_5.out (fun _ hk => trivial), by repeat (first | exact HB.out | apply below_alloc | apply pw_below_drewN | apply below_drew1 | refine below_set ?_ GE61001.out | refine below_set ?_ GE61015.out)⟩
                ·rw [if_neg c58] at H
                 have c58b0 : (1 == x61002001_1) = false := beq_eq_false_iff_ne.mpr c58
                 have c58b1 : (1 != x61002001_1) = true := bne_iff_ne.mpr c58
                 replace H := Option.bind_eq_some_iff.mp H
                 obtain ⟨⟨t61024, t61025, t61026⟩, A640, H⟩ := H
                 replace H : (papermillref13_more.l0 kj47 y61023 t61024 t61025 t61026) = some r := H
                 have A64 := Aside0.mk A640
                 clear A640
                 have H' := Aside0.mk H
                 clear H
                 have hnb65 := NB61015_61001.out
                 have hnc65 := NB61001_61015.out
                 have hcz66_0 : wc.cell? ⟨gb61015, 0, none⟩ = some (.int .i64 ((rd_T44 x5_1 (ji16)).f0)) := (blk_cell BK61015.out 0).trans rfl
                 have hcz66_1 : wc.cell? ⟨gb61015, 1, none⟩ = some (.int .i64 ((rd_T44 x5_1 (ji16)).f1)) := (blk_cell BK61015.out 1).trans rfl
                 have hcz66_2 : wc.cell? ⟨gb61015, 2, none⟩ = some (.bool ((rd_T44 x5_1 (ji16)).f2)) := (blk_cell BK61015.out 2).trans rfl
                 have hfz66_0 := blk_frozen BK61015.out 0
                 have hfz66_1 := blk_frozen BK61015.out 1
                 have hfz66_2 := blk_frozen BK61015.out 2
                 have p57 : 0 ≤ (ji16 : Int) := of_decide_eq_true (by assumption)
                 have q57 : (ji16 : Int) < ((x5_1.length : Int) : Int) := of_decide_eq_true (by assumption)
                 obtain ⟨go57, co57, eo57, gb57, gl57, cl57, HG57⟩ := Kd.R_form HO_5.out (by omega)
                 (first | cases eo57 | (injection eo57 with ea_ en_ ec_; (first | subst ea_ | (injection ea_ with ea_; subst ea_)); subst ec_; clear en_))
                 have GB57 := Aside0.mk gb57
                 have GG57 := Aside0.mk HG57
                 clear gb57 gl57 HG57
                 obtain ⟨ce57, hcl57, hM57, hcc57, hfr57⟩ := Kd.R_elem HO_5.out z44 (ji16 : Int) p57 q57
                 obtain rfl := k44_openM hM57
                 have hx57_0 : wc.cell? ⟨go57, (ji16 : Int).toNat * 3, none⟩ = some (.int .i64 ((rd_T44 x5_1 ji16).f0)) := hcc57 0 _ rfl
                 have hx57_1 : wc.cell? ⟨go57, (ji16 : Int).toNat * 3 + 1, none⟩ = some (.int .i64 ((rd_T44 x5_1 ji16).f1)) := hcc57 1 _ rfl
                 have hx57_2 : wc.cell? ⟨go57, (ji16 : Int).toNat * 3 + 2, none⟩ = some (.bool ((rd_T44 x5_1 ji16).f2)) := hcc57 2 _ rfl
                 have hf57_0 : wc.frozen? ⟨go57, (ji16 : Int).toNat * 3, none⟩ = false := hfr57 0
                 have hf57_1 : wc.frozen? ⟨go57, (ji16 : Int).toNat * 3 + 1, none⟩ = false := hfr57 1
                 have hf57_2 : wc.frozen? ⟨go57, (ji16 : Int).toNat * 3 + 2, none⟩ = false := hfr57 2
                 clear hcl57 hcc57 hfr57 hM57
                 replace p57 := eq_true p57
                 replace q57 := eq_true q57
                 have HX67 := Aside0.mk (show Kd.R k44 44 wc w.heap.size (fun k_ => k_ ≠ gb61001 ∧ k_ ≠ gb61015) (.slice (some ⟨go57, 0, none⟩) x5_1.length co22) x5_1 from (HO_5.out))
                 obtain ⟨ce67, hcl67, hM67, hcc67, hfr67⟩ := Kd.R_elem HX67.out z44 (ji16 : Int) (of_decide_eq_true (by assumption)) (by have h_ : (ji16 : Int) < ((x5_1.length : Int) : Int) := of_decide_eq_true (by assumption); first | exact h_ | (have e_ := (Kd.R_reads' HO_5.out).1; omega) | simpa using h_)
                 obtain rfl := k44_openM hM67
                 have HP67 := Kd.R_seg HX67.out (ji16 : Int) (of_decide_eq_true (by assumption)) (by have h_ : (ji16 : Int) < ((x5_1.length : Int) : Int) := of_decide_eq_true (by assumption); first | exact h_ | (have e_ := (Kd.R_reads' HO_5.out).1; omega) | simpa using h_) (seg := [.int .i64 ((rd_T44 x5_1 (ji16)).f0), .int .i64 (wrap64 (((rd_T44 x5_1 (ji16)).f1) + 1)), .bool ((wrap64 (x61002000_1 - t61016)) == (-1))]) (j := 0) hcl67 hcc67 (show 3 ≤ 3 from by decide) (x' := (⟨((rd_T44 x5_1 (ji16)).f0), wrap64 (((rd_T44 x5_1 (ji16)).f1) + 1), ((wrap64 (x61002000_1 - t61016)) == (-1))⟩ : S44)) (k44_mkM _ _ _ (⟨((rd_T44 x5_1 (ji16)).f0), wrap64 (((rd_T44 x5_1 (ji16)).f1) + 1), ((wrap64 (x61002000_1 - t61016)) == (-1))⟩ : S44) ) (fun _ hk => hk)
                 have hx67_0 := hcc67 0 _ rfl
                 (try simp only [show (k44).sz = 3 from rfl, Nat.mul_one, Nat.add_zero] at hx67_0)
                 have hf67_0 := hfr67 0
                 (try simp only [show (k44).sz = 3 from rfl, Nat.mul_one, Nat.add_zero] at hf67_0)
                 have hx67_1 := hcc67 1 _ rfl
                 (try simp only [show (k44).sz = 3 from rfl, Nat.mul_one, Nat.add_zero] at hx67_1)
                 have hf67_1 := hfr67 1
                 (try simp only [show (k44).sz = 3 from rfl, Nat.mul_one, Nat.add_zero] at hf67_1)
                 have hx67_2 := hcc67 2 _ rfl
                 (try simp only [show (k44).sz = 3 from rfl, Nat.mul_one, Nat.add_zero] at hx67_2)
                 have hf67_2 := hfr67 2
                 (try simp only [show (k44).sz = 3 from rfl, Nat.mul_one, Nat.add_zero] at hf67_2)
                 clear hcl67 hcc67 hfr67 hM67
                 go_wp2_with (first | ((with_reducible refine gate_store (t := 44) (p := 87) rfl ?_); refine store_event (t := 44) (p := 87) (v := ?vo_w68) (w1 := (((wc.setCell ⟨go57, (ji16 : Int).toNat * 3, none⟩ (.int .i64 ((rd_T44 x5_1 (ji16)).f0))).setCell ⟨go57, (ji16 : Int).toNat * 3 + 1, none⟩ (.int .i64 (wrap64 (((rd_T44 x5_1 (ji16)).f1) + 1)))).setCell ⟨go57, (ji16 : Int).toNat * 3 + 2, none⟩ (.bool ((wrap64 (x61002000_1 - t61016)) == (-1))))) ?hg ?ho ?hn ?hr ?_; (case ho => rfl); (case hg => rfl); (case hn => rfl); (case hr => first | (go_simp; done) | (go_simp; rfl)); intro w68 hw; have hg : wc.grownBy w68 (some go57) := (by rw [hw]; exact HP67.2); have hp_ : Kd.R k44 44 w68 w.heap.size (fun k_ => k_ ≠ gb61001 ∧ k_ ≠ gb61015) (.slice (some ⟨go57, 0, none⟩) x5_1.length co22) y61023 := (by rw [hw, Ny61023.out]; exact HP67.1); clear HP67; have n0_ := Aside0.mk (hp_); have n1_ := Aside0.mk (blk_grown (g := gb61001) (o := .cells #[.int .i64 x61002000_1, .int .i64 x61002001_1, .bool x61002002_1] 44 (0, 0)) (BK61001.out) hg (Kd.R_away HO_5.out (fun _ hk => hk.1))); have n2_ := Aside0.mk (blk_grown (g := gb61015) (o := .cells #[.int .i64 ((rd_T44 x5_1 (ji16)).f0), .int .i64 ((rd_T44 x5_1 (ji16)).f1), .bool ((rd_T44 x5_1 (ji16)).f2)] 44 (0, 0)) (BK61015.out) hg (Kd.R_away HO_5.out (fun _ hk => hk.2))); have n3_ := Aside0.mk ((by rw [hw]; exact below_set (below_set (below_set (HB.out) GB57.out) GB57.out) GB57.out : Below w.heap.size w w68)); clear HO_5; clear BK61001; clear BK61015; clear HB; have HO_5 := n0_; have BK61001 := n1_; have BK61015 := n2_; have HB := n3_; clear n0_ n1_ n2_ n3_; clear hg hw hp_; have hcz69_0 : w68.cell? ⟨gb61001, 0, none⟩ = some (.int .i64 x61002000_1) := (blk_cell BK61001.out 0).trans rfl; have hcz69_1 : w68.cell? ⟨gb61001, 1, none⟩ = some (.int .i64 x61002001_1) := (blk_cell BK61001.out 1).trans rfl; have hcz69_2 : w68.cell? ⟨gb61001, 2, none⟩ = some (.bool x61002002_1) := (blk_cell BK61001.out 2).trans rfl; have hfz69_0 := blk_frozen BK61001.out 0; have hfz69_1 := blk_frozen BK61001.out 1; have hfz69_2 := blk_frozen BK61001.out 2) | ((with_reducible refine gate_callee (f := 72) rfl ?_); refine goesL_ (some 99) rfl rfl Try.func72 (by kernel_rfl) rfl #[.agg #[.int .i64 x61002000_1, .int .i64 x61002001_1, .bool x61002002_1], .int .i64 1, .int .i64 (wrap64 (x61002001_1 - 1))] rfl (by (try simp only [List.map_toArray, List.map_cons, List.map_nil]); first | done | rfl | (simp only [List.length_drop, List.length_take]; rfl)) ?_; (with_reducible refine (papermillref13_cut.calls x61002000_1 x61002001_1 x61002002_1 1 (wrap64 (x61002001_1 - 1)) t61024 t61025 t61026 _ A64.out).mono ?_); rintro e w70 ⟨rfl, hb⟩; refine ⟨_, rfl, ?_⟩; have n0_ := Aside0.mk (Kd.R_below (HO_5.out) hb); have n1_ := Aside0.mk (blk_below (g := gb61001) (o := .cells #[.int .i64 x61002000_1, .int .i64 x61002001_1, .bool x61002002_1] 44 (0, 0)) (BK61001.out) hb); have n2_ := Aside0.mk (blk_below (g := gb61015) (o := .cells #[.int .i64 ((rd_T44 x5_1 (ji16)).f0), .int .i64 ((rd_T44 x5_1 (ji16)).f1), .bool ((rd_T44 x5_1 (ji16)).f2)] 44 (0, 0)) (BK61015.out) hb); have n3_ := Aside0.mk (below_step (by repeat (first | exact HB.out | apply below_alloc | apply pw_below_drewN | apply below_drew1 | refine below_set ?_ GE61001.out | refine below_set ?_ GE61015.out)) hb); clear HO_5; clear BK61001; clear BK61015; clear HB; have HO_5 := n0_; have BK61001 := n1_; have BK61015 := n2_; have HB := n3_; clear n0_ n1_ n2_ n3_; (try clear hb); (try clear hb2); (try clear hk); (try clear hi); have hcz71_0 : w70.cell? ⟨gb61001, 0, none⟩ = some (.int .i64 x61002000_1) := (blk_cell BK61001.out 0).trans rfl; have hcz71_1 : w70.cell? ⟨gb61001, 1, none⟩ = some (.int .i64 x61002001_1) := (blk_cell BK61001.out 1).trans rfl; have hcz71_2 : w70.cell? ⟨gb61001, 2, none⟩ = some (.bool x61002002_1) := (blk_cell BK61001.out 2).trans rfl; have hfz71_0 := blk_frozen BK61001.out 0; have hfz71_1 := blk_frozen BK61001.out 1; have hfz71_2 := blk_frozen BK61001.out 2))
                 go_roundg kj47
                 case measure => have := HK1.out; have := HJ19.out; have := HJ47.out; omega
                 case rel => exact ⟨(y61023), (t61024), (t61025), (t61026), H', ⟨by have := HK1.out; have := HJ19.out; have := HJ47.out; omega⟩, ⟨by exact Kd.R_mono (Kd.R_far (p := ⟨gb61001, 2, none⟩) (Kd.R_far (p := ⟨gb61001, 1, none⟩) (Kd.R_far (p := ⟨gb61001, 0, none⟩) (Kd.R_mono HO_5.out (fun k_ hk => (⟨hk, hk.1⟩ : _ ∧ k_ ≠ gb61001))) (fun _ hk => hk.2) (.int .i64 t61024)) (fun _ hk => hk.2) (.int .i64 t61025)) (fun _ hk => hk.2) (.bool t61026)) (fun _ hk => hk.1.1)⟩, ⟨by refine blk_put (cs := #[.int .i64 t61024, .int .i64 t61025, .bool x61002002_1]) ?_ 2 _ rfl; refine blk_put (cs := #[.int .i64 t61024, .int .i64 x61002001_1, .bool x61002002_1]) ?_ 1 _ rfl; refine blk_put (cs := #[.int .i64 x61002000_1, .int .i64 x61002001_1, .bool x61002002_1]) ?_ 0 _ rfl; exact BK61001.out⟩, ⟨by repeat (first | exact HB.out | apply below_alloc | apply pw_below_drewN | apply below_drew1 | refine below_set ?_ GE61001.out | refine below_set ?_ GE61015.out)⟩⟩
               ·rw [if_neg c56] at H
                exact absurd H (by simp)
              ·rw [if_neg c55] at H
               exact absurd H (by simp)
             ·replace c54 := Bool.eq_false_iff.mpr c54
              subst c54
              have H1 : (if 0 ≤ ji16 then (if ji16 < (x5_1.length : Int) then ((some (x5_1.set (ji16 : Int).toNat (⟨((rd_T44 x5_1 (ji16)).f0), wrap64 (((rd_T44 x5_1 (ji16)).f1) + x61002001_1), ((wrap64 (x61002000_1 - t61016)) == (-1))⟩ : S44) : List (S44))).bind fun y61027 => (if x61002001_1 = x61002001_1 then (some y61027) else ((papermillref13_cut.f x61002000_1 x61002001_1 x61002002_1 x61002001_1 (wrap64 (x61002001_1 - x61002001_1))).bind fun bt61028 => (papermillref13_more.l0 kj47 y61027 bt61028.1 bt61028.2.1 bt61028.2.2)))) else (none)) else (none)) = some r := by rw [if_neg (show ¬ (false = true) by decide)] at H; first | exact H | simpa using H
              clear H
              have H := H1
              clear H1
              by_cases c72 : 0 ≤ ji16
              ·rw [if_pos c72] at H
               have c72b0 : decide (0 ≤ ji16) = true := decide_eq_true c72
               clear c72
               by_cases c73 : ji16 < (x5_1.length : Int)
               ·rw [if_pos c73] at H
                have c73b0 : decide (ji16 < (x5_1.length : Int)) = true := decide_eq_true c73
                clear c73
                obtain ⟨y61027, hy61027⟩ : ∃ y_ : List (S44), y_ = (x5_1.set (ji16 : Int).toNat (⟨((rd_T44 x5_1 (ji16)).f0), wrap64 (((rd_T44 x5_1 (ji16)).f1) + x61002001_1), ((wrap64 (x61002000_1 - t61016)) == (-1))⟩ : S44)) := ⟨_, rfl⟩
                replace H : (if x61002001_1 = x61002001_1 then (some y61027) else ((papermillref13_cut.f x61002000_1 x61002001_1 x61002002_1 x61002001_1 (wrap64 (x61002001_1 - x61002001_1))).bind fun bt61028 => (papermillref13_more.l0 kj47 y61027 bt61028.1 bt61028.2.1 bt61028.2.2))) = some r := by first | (rw [hy61027]; with_reducible exact H) | (have H2_ := (Option.bind_some _ _).symm.trans H; rw [hy61027]; with_reducible exact H2_) | (have H2_ := (Option.bind_some _ _).symm.trans H; with_reducible exact H2_) | with_reducible exact H | (rw [hy61027]; exact H) | exact H
                have Ny61027 := Aside0.mk hy61027
                clear hy61027
                by_cases c75 : x61002001_1 = x61002001_1
                ·rw [if_pos c75] at H
                 have c75b0 : (x61002001_1 == x61002001_1) = true := beq_iff_eq.mpr c75
                 have c75b1 : (x61002001_1 != x61002001_1) = false := bne_eq_false_iff_eq.mpr c75
                 clear c75
                 obtain rfl := Option.some.inj H
                 have hnb76 := NB61015_61001.out
                 have hnc76 := NB61001_61015.out
                 have hcz77_0 : wc.cell? ⟨gb61015, 0, none⟩ = some (.int .i64 ((rd_T44 x5_1 (ji16)).f0)) := (blk_cell BK61015.out 0).trans rfl
                 have hcz77_1 : wc.cell? ⟨gb61015, 1, none⟩ = some (.int .i64 ((rd_T44 x5_1 (ji16)).f1)) := (blk_cell BK61015.out 1).trans rfl
                 have hcz77_2 : wc.cell? ⟨gb61015, 2, none⟩ = some (.bool ((rd_T44 x5_1 (ji16)).f2)) := (blk_cell BK61015.out 2).trans rfl
                 have hfz77_0 := blk_frozen BK61015.out 0
                 have hfz77_1 := blk_frozen BK61015.out 1
                 have hfz77_2 := blk_frozen BK61015.out 2
                 have p74 : 0 ≤ (ji16 : Int) := of_decide_eq_true (by assumption)
                 have q74 : (ji16 : Int) < ((x5_1.length : Int) : Int) := of_decide_eq_true (by assumption)
                 obtain ⟨go74, co74, eo74, gb74, gl74, cl74, HG74⟩ := Kd.R_form HO_5.out (by omega)
                 (first | cases eo74 | (injection eo74 with ea_ en_ ec_; (first | subst ea_ | (injection ea_ with ea_; subst ea_)); subst ec_; clear en_))
                 have GB74 := Aside0.mk gb74
                 have GG74 := Aside0.mk HG74
                 clear gb74 gl74 HG74
                 obtain ⟨ce74, hcl74, hM74, hcc74, hfr74⟩ := Kd.R_elem HO_5.out z44 (ji16 : Int) p74 q74
                 obtain rfl := k44_openM hM74
                 have hx74_0 : wc.cell? ⟨go74, (ji16 : Int).toNat * 3, none⟩ = some (.int .i64 ((rd_T44 x5_1 ji16).f0)) := hcc74 0 _ rfl
                 have hx74_1 : wc.cell? ⟨go74, (ji16 : Int).toNat * 3 + 1, none⟩ = some (.int .i64 ((rd_T44 x5_1 ji16).f1)) := hcc74 1 _ rfl
                 have hx74_2 : wc.cell? ⟨go74, (ji16 : Int).toNat * 3 + 2, none⟩ = some (.bool ((rd_T44 x5_1 ji16).f2)) := hcc74 2 _ rfl
                 have hf74_0 : wc.frozen? ⟨go74, (ji16 : Int).toNat * 3, none⟩ = false := hfr74 0
                 have hf74_1 : wc.frozen? ⟨go74, (ji16 : Int).toNat * 3 + 1, none⟩ = false := hfr74 1
                 have hf74_2 : wc.frozen? ⟨go74, (ji16 : Int).toNat * 3 + 2, none⟩ = false := hfr74 2
                 clear hcl74 hcc74 hfr74 hM74
                 replace p74 := eq_true p74
                 replace q74 := eq_true q74
                 have HX78 := Aside0.mk (show Kd.R k44 44 wc w.heap.size (fun k_ => k_ ≠ gb61001 ∧ k_ ≠ gb61015) (.slice (some ⟨go74, 0, none⟩) x5_1.length co22) x5_1 from (HO_5.out))
                 obtain ⟨ce78, hcl78, hM78, hcc78, hfr78⟩ := Kd.R_elem HX78.out z44 (ji16 : Int) (of_decide_eq_true (by assumption)) (by have h_ : (ji16 : Int) < ((x5_1.length : Int) : Int) := of_decide_eq_true (by assumption); first | exact h_ | (have e_ := (Kd.R_reads' HO_5.out).1; omega) | simpa using h_)
                 obtain rfl := k44_openM hM78
                 have HP78 := Kd.R_seg HX78.out (ji16 : Int) (of_decide_eq_true (by assumption)) (by have h_ : (ji16 : Int) < ((x5_1.length : Int) : Int) := of_decide_eq_true (by assumption); first | exact h_ | (have e_ := (Kd.R_reads' HO_5.out).1; omega) | simpa using h_) (seg := [.int .i64 ((rd_T44 x5_1 (ji16)).f0), .int .i64 (wrap64 (((rd_T44 x5_1 (ji16)).f1) + x61002001_1)), .bool ((wrap64 (x61002000_1 - t61016)) == (-1))]) (j := 0) hcl78 hcc78 (show 3 ≤ 3 from by decide) (x' := (⟨((rd_T44 x5_1 (ji16)).f0), wrap64 (((rd_T44 x5_1 (ji16)).f1) + x61002001_1), ((wrap64 (x61002000_1 - t61016)) == (-1))⟩ : S44)) (k44_mkM _ _ _ (⟨((rd_T44 x5_1 (ji16)).f0), wrap64 (((rd_T44 x5_1 (ji16)).f1) + x61002001_1), ((wrap64 (x61002000_1 - t61016)) == (-1))⟩ : S44) ) (fun _ hk => hk)
                 have hx78_0 := hcc78 0 _ rfl
                 (try simp only [show (k44).sz = 3 from rfl, Nat.mul_one, Nat.add_zero] at hx78_0)
                 have hf78_0 := hfr78 0
                 (try simp only [show (k44).sz = 3 from rfl, Nat.mul_one, Nat.add_zero] at hf78_0)
                 have hx78_1 := hcc78 1 _ rfl
                 (try simp only [show (k44).sz = 3 from rfl, Nat.mul_one, Nat.add_zero] at hx78_1)
                 have hf78_1 := hfr78 1
                 (try simp only [show (k44).sz = 3 from rfl, Nat.mul_one, Nat.add_zero] at hf78_1)
                 have hx78_2 := hcc78 2 _ rfl
                 (try simp only [show (k44).sz = 3 from rfl, Nat.mul_one, Nat.add_zero] at hx78_2)
                 have hf78_2 := hfr78 2
                 (try simp only [show (k44).sz = 3 from rfl, Nat.mul_one, Nat.add_zero] at hf78_2)
                 clear hcl78 hcc78 hfr78 hM78
                 go_wp2_with (first | ((with_reducible refine gate_store (t := 44) (p := 87) rfl ?_); refine store_event (t := 44) (p := 87) (v := ?vo_w79) (w1 := (((wc.setCell ⟨go74, (ji16 : Int).toNat * 3, none⟩ (.int .i64 ((rd_T44 x5_1 (ji16)).f0))).setCell ⟨go74, (ji16 : Int).toNat * 3 + 1, none⟩ (.int .i64 (wrap64 (((rd_T44 x5_1 (ji16)).f1) + x61002001_1)))).setCell ⟨go74, (ji16 : Int).toNat * 3 + 2, none⟩ (.bool ((wrap64 (x61002000_1 - t61016)) == (-1))))) ?hg ?ho ?hn ?hr ?_; (case ho => rfl); (case hg => rfl); (case hn => rfl); (case hr => first | (go_simp; done) | (go_simp; rfl)); intro w79 hw; have hg : wc.grownBy w79 (some go74) := (by rw [hw]; exact HP78.2); have hp_ : Kd.R k44 44 w79 w.heap.size (fun k_ => k_ ≠ gb61001 ∧ k_ ≠ gb61015) (.slice (some ⟨go74, 0, none⟩) x5_1.length co22) y61027 := (by rw [hw, Ny61027.out]; exact HP78.1); clear HP78; have n0_ := Aside0.mk (hp_); have n1_ := Aside0.mk (blk_grown (g := gb61001) (o := .cells #[.int .i64 x61002000_1, .int .i64 x61002001_1, .bool x61002002_1] 44 (0, 0)) (BK61001.out) hg (Kd.R_away HO_5.out (fun _ hk => hk.1))); have n2_ := Aside0.mk (blk_grown (g := gb61015) (o := .cells #[.int .i64 ((rd_T44 x5_1 (ji16)).f0), .int .i64 ((rd_T44 x5_1 (ji16)).f1), .bool ((rd_T44 x5_1 (ji16)).f2)] 44 (0, 0)) (BK61015.out) hg (Kd.R_away HO_5.out (fun _ hk => hk.2))); have n3_ := Aside0.mk ((by rw [hw]; exact below_set (below_set (below_set (HB.out) GB74.out) GB74.out) GB74.out : Below w.heap.size w w79)); clear HO_5; clear BK61001; clear BK61015; clear HB; have HO_5 := n0_; have BK61001 := n1_; have BK61015 := n2_; have HB := n3_; clear n0_ n1_ n2_ n3_; clear hg hw hp_; have hcz80_0 : w79.cell? ⟨gb61001, 0, none⟩ = some (.int .i64 x61002000_1) := (blk_cell BK61001.out 0).trans rfl; have hcz80_1 : w79.cell? ⟨gb61001, 1, none⟩ = some (.int .i64 x61002001_1) := (blk_cell BK61001.out 1).trans rfl; have hcz80_2 : w79.cell? ⟨gb61001, 2, none⟩ = some (.bool x61002002_1) := (blk_cell BK61001.out 2).trans rfl; have hfz80_0 := blk_frozen BK61001.out 0; have hfz80_1 := blk_frozen BK61001.out 1; have hfz80_2 := blk_frozen BK61001.out 2))
                 go_ret
                 exact ⟨_, by first | rfl | (simp [errW_none, errW_some] <;> rfl) | (simp only [← hji16]; first | rfl | (simp [errW_none, errW_some] <;> rfl)) | (simp [*, errW_none, errW_some] <;> rfl), by exact Kd.R_mono HO_5.out (fun _ hk => trivial), by repeat (first | exact HB.out | apply below_alloc | apply pw_below_drewN | apply below_drew1 | refine below_set ?_ GE61001.out | refine below_set ?_ GE61015.out)⟩
                ·rw [if_neg c75] at H
                 exact absurd rfl c75
               ·rw [if_neg c73] at H
                exact absurd H (by simp)
              ·rw [if_neg c72] at H
               exact absurd H (by simp)
       ·rw [if_neg c18] at H
        exact absurd H (by simp)
      ·rw [if_neg c17] at H
       exact absurd H (by simp)
    ·rw [if_neg c8] at H
     have c8b0 : decide (0 < x61002001_1) = false := decide_eq_false c8
     clear c8
     obtain rfl := Option.some.inj H
     have hcz89_0 : wr.cell? ⟨gb61001, 0, none⟩ = some (.int .i64 x61002000_1) := (blk_cell BK61001.out 0).trans rfl
     have hcz89_1 : wr.cell? ⟨gb61001, 1, none⟩ = some (.int .i64 x61002001_1) := (blk_cell BK61001.out 1).trans rfl
     have hcz89_2 : wr.cell? ⟨gb61001, 2, none⟩ = some (.bool x61002002_1) := (blk_cell BK61001.out 2).trans rfl
     have hfz89_0 := blk_frozen BK61001.out 0
     have hfz89_1 := blk_frozen BK61001.out 1
     have hfz89_2 := blk_frozen BK61001.out 2
     go_wp2
     go_ret
     exact ⟨_, by first | rfl | (simp [errW_none, errW_some] <;> rfl) | (simp [*, errW_none, errW_some] <;> rfl), by exact Kd.R_mono HO_5.out (fun _ hk => trivial), by repeat (first | exact HB.out | apply below_alloc | apply pw_below_drewN | apply below_drew1 | refine below_set ?_ GE61001.out)⟩
 ·rw [if_neg c3] at H
  exact absurd H (by simp)

end Go.Proofs.Ytalpegglbfobiaa.G

namespace Go.Proofs.Ytalpegglbfobiaa.G
open Go.RowKit Go.Proofs.YtalpegglbfobiaaW.PrintWords Go.Proofs.YtalpegglbfobiaaW.PrintLast Go.Proofs.YtalpegglbfobiaaW.PrintMore
attribute [local go_sem] max2_int min2_int max_two min_two max_three min_three max_four min_four   -- for this text's walks alone
set_option linter.unusedVariables false
set_option linter.unusedSimpArgs false

def papermillref13_all.l0 : Nat → List (S44) → List (S44) → Int → Option ((List (S44)))
 | 0, _, _, _ => none
 | k + 1, x0, x3, x4 => if x4 < (x0.length : Int) then (if 0 ≤ x4 then ((papermillref13_more.f k x3 ((rd_T44 x0 x4).f0) ((rd_T44 x0 x4).f1) ((rd_T44 x0 x4).f2)).bind fun t63002 => (papermillref13_all.l0 k x0 t63002 (wrap64 (x4 + 1)))) else (none)) else (some x3)
def papermillref13_all.f (k : Nat) (l0 : List (S44)) : Option ((List (S44))) := papermillref13_all.l0 k l0 ([] : List (S44)) 0
set_option maxHeartbeats 8000000 in
set_option maxRecDepth 100000 in
theorem papermillref13_all.calls (k : Nat) (A0 : Option Addr) (c0 : Nat) (l0 : List (S44)) (r : List (S44)) (w : World) (hr0 : Kd.C k44 w A0 l0.length l0) (hc0 : l0.length ≤ c0) (h : papermillref13_all.f k l0 = some r) :
  Calls Try.prog 62 #[.slice A0 l0.length c0] w fun e w' => ∃ v0_ : Value, e = .returned (v0_) ∧ Kd.R k44 44 w' w.heap.size (fun _ => True) v0_ r ∧ Below w.heap.size w w' := by
 have hu44 := Try.underlying44
 have HR0 := Aside0.mk hr0
 have HC0 := Aside0.mk hc0
 clear hr0 hc0
 have HB := Aside0.mk (Below.refl w.heap.size w)
 have H : (papermillref13_all.l0 k l0 ([] : List (S44)) 0) = some r := h
 clear h
 have H' := Aside0.mk H
 clear H
 go_enter Try.func62, Try.ntmps62
 go_wp2
 go_loopg [3, 4] k (fun kq v3 v4 w' => ∃ (x3_1 : List (S44)) (x4_1 : Int), v4 = .int .i64 x4_1 ∧ Aside0 (papermillref13_all.l0 kq l0 x3_1 x4_1 = some r) ∧ Aside0 (kq ≤ k) ∧ Aside0 (Kd.R k44 44 w' w.heap.size (fun _ => True) v3 x3_1) ∧ Aside0 (Below w.heap.size w w'))
 case atStart => exact ⟨(([] : List (S44))), (0), (by first | rfl | (simp; done) | (simp [*]; done)), H', ⟨Nat.le_refl _⟩, ⟨by first | exact Kd.R_nil _ _ _ _ _ | exact Kd.N_nil _ _ _ _ _ | exact Kd.V_nil _ _ _ _ _ | exact Kd.Q_nil _ _ _ _ _ | exact Kd.S_nil _ _ _ _ _⟩, ⟨by repeat (first | exact HB.out | apply below_alloc | apply pw_below_drewN | apply below_drew1)⟩⟩
 case round =>
  clear H'
  obtain ⟨x3_1, x4_1, rfl, HA, HK1, HO_3, HB⟩ := hrel
  cases gk with
  | zero => exact absurd HA.out (by simp [papermillref13_all.l0])
  | succ k1 =>
   have H := HA.out
   clear HA
   simp only [papermillref13_all.l0] at H
   by_cases c2 : x4_1 < (l0.length : Int)
   ·rw [if_pos c2] at H
    have c2b0 : decide (x4_1 < (l0.length : Int)) = true := decide_eq_true c2
    clear c2
    by_cases c3 : 0 ≤ x4_1
    ·rw [if_pos c3] at H
     have c3b0 : decide (0 ≤ x4_1) = true := decide_eq_true c3
     clear c3
     replace H := Option.bind_eq_some_iff.mp H
     obtain ⟨t63002, A40, H⟩ := H
     replace H : (papermillref13_all.l0 k1 l0 t63002 (wrap64 (x4_1 + 1))) = some r := H
     have A4 := Aside0.mk A40
     clear A40
     have H' := Aside0.mk H
     clear H
     have p63001 : 0 ≤ (x4_1 : Int) := of_decide_eq_true (by assumption)
     have q63001 : x4_1 < (l0.length : Int) := of_decide_eq_true (by assumption)
     obtain ⟨ad63001, e63001, hx63001_0, hx63001_1, hx63001_2⟩ := at_T44 HR0.out x4_1 p63001 q63001
     cases e63001
     replace hx63001_0 := (HB.out.cell (World.block_lt_of_cell? w _ hx63001_0)).trans hx63001_0
     replace hx63001_1 := (HB.out.cell (World.block_lt_of_cell? w _ hx63001_1)).trans hx63001_1
     replace hx63001_2 := (HB.out.cell (World.block_lt_of_cell? w _ hx63001_2)).trans hx63001_2
     replace p63001 := eq_true p63001
     replace q63001 := eq_true q63001
     obtain ⟨Ao5, co5, eo5⟩ := Kd.R_slice HO_3.out
     subst eo5
     go_wp2_with (first | ((with_reducible refine gate_callee (f := 60) rfl ?_); refine goesL_ (some 16) rfl rfl Try.func60 (by kernel_rfl) rfl #[.slice Ao5 x3_1.length co5, .agg #[.int .i64 ((rd_T44 l0 x4_1).f0), .int .i64 ((rd_T44 l0 x4_1).f1), .bool ((rd_T44 l0 x4_1).f2)]] rfl (by (try simp only [List.map_toArray, List.map_cons, List.map_nil]); first | done | rfl | (simp only [List.length_drop, List.length_take]; rfl)) ?_; (with_reducible refine (papermillref13_more.calls k1 _ _ x3_1 ((rd_T44 l0 x4_1).f0) ((rd_T44 l0 x4_1).f1) ((rd_T44 l0 x4_1).f2) t63002 _ ?side1 ?side2 A4.out).mono ?_); (case side1 => exact (Kd.R_reads' HO_3.out).2.2); (case side2 => exact (Kd.R_reads' HO_3.out).2.1); rintro e w6 ⟨v63003, rfl, ho0, hb⟩; refine ⟨_, rfl, ?_⟩; have n0_ := Aside0.mk (Kd.R_elder' (HO_3.out) (Kd.R_base ho0) hb); have n1_ := Aside0.mk (Kd.R_lower (Kd.R_new' ho0 (Kd.R_lt (HO_3.out))) (below_size (by repeat (first | exact HB.out | apply below_alloc | apply pw_below_drewN | apply below_drew1)))); have n2_ := Aside0.mk (below_step (by repeat (first | exact HB.out | apply below_alloc | apply pw_below_drewN | apply below_drew1)) hb); clear HO_3; clear HB; have HO_3 := n0_; have HO63004 := n1_; have HB := n2_; clear n0_ n1_ n2_; (try clear hb); (try clear hb2); (try clear hk); (try clear hi); (try clear ho0)))
     go_roundg k1
     case measure => have := HK1.out; omega
     case rel => exact ⟨(t63002), (wrap64 (x4_1 + 1)), (by first | rfl | (simp; done) | (simp [*]; done)), H', ⟨by have := HK1.out; omega⟩, ⟨by exact Kd.R_mono HO63004.out (fun _ hk => trivial)⟩, ⟨by repeat (first | exact HB.out | apply below_alloc | apply pw_below_drewN | apply below_drew1)⟩⟩
    ·rw [if_neg c3] at H
     exact absurd H (by simp)
   ·rw [if_neg c2] at H
    have c2b0 : decide (x4_1 < (l0.length : Int)) = false := decide_eq_false c2
    clear c2
    obtain rfl := Option.some.inj H
    go_wp2
    go_ret
    exact ⟨_, by first | rfl | (simp [errW_none, errW_some] <;> rfl) | (simp [*, errW_none, errW_some] <;> rfl), by exact HO_3.out, by repeat (first | exact HB.out | apply below_alloc | apply pw_below_drewN | apply below_drew1)⟩

end Go.Proofs.Ytalpegglbfobiaa.G

namespace Go.Proofs.Ytalpegglbfobiaa.G
open Go.RowKit Go.Proofs.YtalpegglbfobiaaW.PrintWords Go.Proofs.YtalpegglbfobiaaW.PrintLast Go.Proofs.YtalpegglbfobiaaW.PrintMore
attribute [local go_sem] max2_int min2_int max_two min_two max_three min_three max_four min_four   -- for this text's walks alone
set_option linter.unusedVariables false
set_option linter.unusedSimpArgs false

def papermillref13_Norm.f (k : Nat) (l0 : List (S44)) : Option ((List (S44)) × Int) := (papermillref13_Check.f k l0).bind fun t42001 => (if t42001 = 0 then ((papermillref13_all.f k l0).bind fun t42002 => (some (t42002, 0))) else (some (([] : List (S44)), t42001)))
set_option maxHeartbeats 8000000 in
set_option maxRecDepth 100000 in
theorem papermillref13_Norm.calls (k : Nat) (A0 : Option Addr) (c0 : Nat) (l0 : List (S44)) (r1 : List (S44)) (r2 : Int) (w : World) (hr0 : Kd.C k44 w A0 l0.length l0) (hc0 : l0.length ≤ c0) (h : papermillref13_Norm.f k l0 = some (r1, r2)) :
  Calls Try.prog 41 #[.slice A0 l0.length c0] w fun e w' => ∃ v0_ : Value, e = .returned (.tuple #[v0_, .int .i64 r2]) ∧ Kd.R k44 44 w' w.heap.size (fun _ => True) v0_ r1 ∧ Below w.heap.size w w' := by
 have HR0 := Aside0.mk hr0
 have HC0 := Aside0.mk hc0
 clear hr0 hc0
 have HB := Aside0.mk (Below.refl w.heap.size w)
 have H : ((papermillref13_Check.f k l0).bind fun t42001 => (if t42001 = 0 then ((papermillref13_all.f k l0).bind fun t42002 => (some (t42002, 0))) else (some (([] : List (S44)), t42001)))) = some (r1, r2) := h
 clear h
 replace H := Option.bind_eq_some_iff.mp H
 obtain ⟨t42001, A20, H⟩ := H
 replace H : (if t42001 = 0 then ((papermillref13_all.f k l0).bind fun t42002 => (some (t42002, 0))) else (some (([] : List (S44)), t42001))) = some (r1, r2) := H
 have A2 := Aside0.mk A20
 clear A20
 by_cases c3 : t42001 = 0
 ·rw [if_pos c3] at H
  have c3b0 : (t42001 == 0) = true := beq_iff_eq.mpr c3
  have c3b1 : (t42001 != 0) = false := bne_eq_false_iff_eq.mpr c3
  clear c3
  replace H := Option.bind_eq_some_iff.mp H
  obtain ⟨t42002, A40, H⟩ := H
  replace H : (some (t42002, 0)) = some (r1, r2) := H
  have A4 := Aside0.mk A40
  clear A40
  simp only [Option.some.injEq, Prod.mk.injEq] at H
  obtain ⟨rfl, rfl⟩ := H
  go_enter Try.func41, Try.ntmps41
  go_wp2_with (first | ((with_reducible refine gate_callee (f := 25) rfl ?_); refine goesL_ (some 6) rfl rfl Try.func25 (by kernel_rfl) rfl #[.slice A0 l0.length c0] rfl (by (try simp only [List.map_toArray, List.map_cons, List.map_nil]); first | done | rfl | (simp only [List.length_drop, List.length_take]; rfl)) ?_; (with_reducible refine (papermillref13_Check.calls k _ _ l0 t42001 _ ?side1 ?side2 A2.out).mono ?_); (case side1 => exact HR0.out); (case side2 => exact HC0.out); rintro e w5 ⟨rfl, hb⟩; refine ⟨_, rfl, ?_⟩; have n0_ := Aside0.mk (below_step (by repeat (first | exact HB.out | apply below_alloc | apply pw_below_drewN | apply below_drew1)) hb); clear HB; have HB := n0_; clear n0_; (try clear hb); (try clear hb2); (try clear hk); (try clear hi)) | ((with_reducible refine gate_callee (f := 62) rfl ?_); refine goesL_ (some 11) rfl rfl Try.func62 (by kernel_rfl) rfl #[.slice A0 l0.length c0] rfl (by (try simp only [List.map_toArray, List.map_cons, List.map_nil]); first | done | rfl | (simp only [List.length_drop, List.length_take]; rfl)) ?_; (with_reducible refine (papermillref13_all.calls k _ _ l0 t42002 _ ?side1 ?side2 A4.out).mono ?_); (case side1 => exact (Kd.C_below HR0.out HB.out)); (case side2 => exact HC0.out); rintro e w6 ⟨v42003, rfl, ho0, hb⟩; refine ⟨_, rfl, ?_⟩; have n0_ := Aside0.mk (Kd.R_lower ho0 (below_size (by repeat (first | exact HB.out | apply below_alloc | apply pw_below_drewN | apply below_drew1)))); have n1_ := Aside0.mk (below_step (by repeat (first | exact HB.out | apply below_alloc | apply pw_below_drewN | apply below_drew1)) hb); clear HB; have HO42004 := n0_; have HB := n1_; clear n0_ n1_; (try clear hb); (try clear hb2); (try clear hk); (try clear hi); (try clear ho0)))
  go_ret2
  exact ⟨_, by first | rfl | (simp [errW_none, errW_some] <;> rfl) | (simp [*, errW_none, errW_some] <;> rfl), by exact HO42004.out, by repeat (first | exact HB.out | apply below_alloc | apply pw_below_drewN | apply below_drew1)⟩
 ·rw [if_neg c3] at H
  have c3b0 : (t42001 == 0) = false := beq_eq_false_iff_ne.mpr c3
  have c3b1 : (t42001 != 0) = true := bne_iff_ne.mpr c3
  simp only [Option.some.injEq, Prod.mk.injEq] at H
  obtain ⟨rfl, rfl⟩ := H
  go_enter Try.func41, Try.ntmps41
  go_wp2_with (first | ((with_reducible refine gate_callee (f := 25) rfl ?_); refine goesL_ (some 6) rfl rfl Try.func25 (by kernel_rfl) rfl #[.slice A0 l0.length c0] rfl (by (try simp only [List.map_toArray, List.map_cons, List.map_nil]); first | done | rfl | (simp only [List.length_drop, List.length_take]; rfl)) ?_; (with_reducible refine (papermillref13_Check.calls k _ _ l0 t42001 _ ?side1 ?side2 A2.out).mono ?_); (case side1 => exact HR0.out); (case side2 => exact HC0.out); rintro e w7 ⟨rfl, hb⟩; refine ⟨_, rfl, ?_⟩; have n0_ := Aside0.mk (below_step (by repeat (first | exact HB.out | apply below_alloc | apply pw_below_drewN | apply below_drew1)) hb); clear HB; have HB := n0_; clear n0_; (try clear hb); (try clear hb2); (try clear hk); (try clear hi)))
  go_ret2
  exact ⟨_, by first | rfl | (simp [errW_none, errW_some] <;> rfl) | (simp [*, errW_none, errW_some] <;> rfl), by first | exact Kd.R_nil _ _ _ _ _ | exact Kd.N_nil _ _ _ _ _ | exact Kd.V_nil _ _ _ _ _ | exact Kd.Q_nil _ _ _ _ _ | exact Kd.S_nil _ _ _ _ _, by repeat (first | exact HB.out | apply below_alloc | apply pw_below_drewN | apply below_drew1)⟩

end Go.Proofs.Ytalpegglbfobiaa.G

namespace Go.Proofs.Ytalpegglbfobiaa.G
open Go.RowKit Go.Proofs.YtalpegglbfobiaaW.PrintWords Go.Proofs.YtalpegglbfobiaaW.PrintLast Go.Proofs.YtalpegglbfobiaaW.PrintMore
attribute [local go_sem] max2_int min2_int max_two min_two max_three min_three max_four min_four   -- for this text's walks alone
set_option linter.unusedVariables false
set_option linter.unusedSimpArgs false

mutual
def papermillref13_place.l0 : Nat → List (S44) → Int → Int → Option (Int × Int)
 | 0, _, _, _ => none
 | k + 1, x0, x1, x6 => if x6 < (x0.length : Int) then (papermillref13_place.j1 k x0 x1 x6 (decide (x1 ≥ 0))) else (papermillref13_place.j1 k x0 x1 x6 false)
def papermillref13_place.j1 : Nat → List (S44) → Int → Int → Bool → Option (Int × Int)
 | 0, _, _, _, _ => none
 | k + 1, x0, x1, x6, x14 => if x14 = true then (if 0 ≤ x6 then (if x6 < (x0.length : Int) then (if x1 < ((rd_T44 x0 x6).f1) then (some (x6, x1)) else (papermillref13_place.l0 k x0 (wrap64 (x1 - ((rd_T44 x0 x6).f1))) (wrap64 (x6 + 1)))) else (none)) else (none)) else (some ((-1), 0))
end
def papermillref13_place.f (k : Nat) (l0 : List (S44)) (a1 : Int) : Option (Int × Int) := papermillref13_place.l0 k l0 a1 0
set_option maxHeartbeats 8000000 in
set_option maxRecDepth 100000 in
theorem papermillref13_place.calls (k : Nat) (A0 : Option Addr) (c0 : Nat) (l0 : List (S44)) (a1 : Int) (r1 : Int) (r2 : Int) (w : World) (hr0 : Kd.C k44 w A0 l0.length l0) (hc0 : l0.length ≤ c0) (h : papermillref13_place.f k l0 a1 = some (r1, r2)) :
  Calls Try.prog 47 #[.slice A0 l0.length c0, .int .i64 a1] w fun e w' => e = .returned (.tuple #[.int .i64 r1, .int .i64 r2]) ∧ Drawn0 w w' := by
 have HR0 := Aside0.mk hr0
 have HC0 := Aside0.mk hc0
 clear hr0 hc0
 have H : (papermillref13_place.l0 k l0 a1 0) = some (r1, r2) := h
 clear h
 have H' := Aside0.mk H
 clear H
 go_enter Try.func47, Try.ntmps47
 go_wp2
 go_loopg [1, 6] k (fun kq v1 v6 w' => ∃ (x1_1 : Int) (x6_1 : Int), v1 = .int .i64 x1_1 ∧ v6 = .int .i64 x6_1 ∧ Aside0 (papermillref13_place.l0 kq l0 x1_1 x6_1 = some (r1, r2)) ∧ Aside0 (kq ≤ k) ∧ Drawn0 w w')
 case atStart => exact ⟨(a1), (0), (by first | rfl | (simp; done) | (simp [*]; done)), (by first | rfl | (simp; done) | (simp [*]; done)), H', ⟨Nat.le_refl _⟩, by repeat (first | exact Drawn0.refl _ | apply Drawn0.step)⟩
 case round =>
  clear H'
  try clear p2
  obtain ⟨x1_1, x6_1, rfl, rfl, HA, HK1, ⟨m1, rfl⟩⟩ := hrel
  cases gk with
  | zero => exact absurd HA.out (by simp [papermillref13_place.l0])
  | succ k1 =>
   have H := HA.out
   clear HA
   simp only [papermillref13_place.l0] at H
   have HC3 := Aside0.mk H
   clear H
   go_upto_region 2 with (fail)
   go_cut [14] (fun v14 wc => ∃ (kq : Nat) (x14_2 : Bool), v14 = .bool x14_2 ∧ Aside0 (papermillref13_place.j1 kq l0 x1_1 x6_1 x14_2 = some (r1, r2)) ∧ Aside0 (kq ≤ k1) ∧ Drawn0 w wc)
   case first =>
    have H := HC3.out
    clear HC3
    by_cases c4 : x6_1 < (l0.length : Int)
    ·rw [if_pos c4] at H
     have c4b0 : decide (x6_1 < (l0.length : Int)) = true := decide_eq_true c4
     clear c4
     (first | rw [c4b0] | (simp only [i64_w, i32_w]; rw [c4b0]) | skip)
     have H' := Aside0.mk H
     clear H
     go_wp2
     go_meet
     case rel => exact ⟨_, (decide (x1_1 ≥ 0)), (by first | rfl | (simp; done) | (simp [*]; done)), H', ⟨by have := HK1.out; first | omega | exact Nat.le_refl _⟩, by repeat (first | exact Drawn0.refl _ | apply Drawn0.step)⟩
    ·rw [if_neg c4] at H
     have c4b0 : decide (x6_1 < (l0.length : Int)) = false := decide_eq_false c4
     clear c4
     (first | rw [c4b0] | (simp only [i64_w, i32_w]; rw [c4b0]) | skip)
     have H' := Aside0.mk H
     clear H
     go_wp2
     go_meet
     case rel => exact ⟨_, (false), (by first | rfl | (simp; done) | (simp [*]; done)), H', ⟨by have := HK1.out; first | omega | exact Nat.le_refl _⟩, by repeat (first | exact Drawn0.refl _ | apply Drawn0.step)⟩
   case rest =>
    clear HC3
    try clear p2
    try clear c4
    try clear c4b0
    try clear p2
    obtain ⟨kq, x14_2, rfl, HA, HJ2, ⟨mc2, rfl⟩⟩ := hcut
    cases kq with
    | zero => exact absurd HA.out (by simp [papermillref13_place.j1])
    | succ kj2 =>
     have H := HA.out
     clear HA
     simp only [papermillref13_place.j1] at H
     by_cases c5 : x14_2 = true
     ·subst c5
      have H1 : (if 0 ≤ x6_1 then (if x6_1 < (l0.length : Int) then (if x1_1 < ((rd_T44 l0 x6_1).f1) then (some (x6_1, x1_1)) else (papermillref13_place.l0 kj2 l0 (wrap64 (x1_1 - ((rd_T44 l0 x6_1).f1))) (wrap64 (x6_1 + 1)))) else (none)) else (none)) = some (r1, r2) := by rw [if_pos rfl] at H; exact H
      clear H
      have H := H1
      clear H1
      by_cases c6 : 0 ≤ x6_1
      ·rw [if_pos c6] at H
       have c6b0 : decide (0 ≤ x6_1) = true := decide_eq_true c6
       clear c6
       by_cases c7 : x6_1 < (l0.length : Int)
       ·rw [if_pos c7] at H
        have c7b0 : decide (x6_1 < (l0.length : Int)) = true := decide_eq_true c7
        clear c7
        by_cases c8 : x1_1 < ((rd_T44 l0 x6_1).f1)
        ·rw [if_pos c8] at H
         have c8b0 : decide (x1_1 < ((rd_T44 l0 x6_1).f1)) = true := decide_eq_true c8
         clear c8
         simp only [Option.some.injEq, Prod.mk.injEq] at H
         obtain ⟨rfl, rfl⟩ := H
         have p48001 : 0 ≤ (x6_1 : Int) := of_decide_eq_true (by assumption)
         have q48001 : x6_1 < (l0.length : Int) := of_decide_eq_true (by assumption)
         obtain ⟨ad48001, e48001, hx48001_0, hx48001_1, hx48001_2⟩ := at_T44 HR0.out x6_1 p48001 q48001
         cases e48001
         replace p48001 := eq_true p48001
         replace q48001 := eq_true q48001
         go_wp2
         go_ret2
         exact ⟨by first | rfl | (simp; done) | (simp [*]; done), by repeat (first | exact Drawn0.refl _ | apply Drawn0.step)⟩
        ·rw [if_neg c8] at H
         have c8b0 : decide (x1_1 < ((rd_T44 l0 x6_1).f1)) = false := decide_eq_false c8
         clear c8
         have H' := Aside0.mk H
         clear H
         have p48001 : 0 ≤ (x6_1 : Int) := of_decide_eq_true (by assumption)
         have q48001 : x6_1 < (l0.length : Int) := of_decide_eq_true (by assumption)
         obtain ⟨ad48001, e48001, hx48001_0, hx48001_1, hx48001_2⟩ := at_T44 HR0.out x6_1 p48001 q48001
         cases e48001
         replace p48001 := eq_true p48001
         replace q48001 := eq_true q48001
         have p48002 : 0 ≤ (x6_1 : Int) := of_decide_eq_true (by assumption)
         have q48002 : x6_1 < (l0.length : Int) := of_decide_eq_true (by assumption)
         obtain ⟨ad48002, e48002, hx48002_0, hx48002_1, hx48002_2⟩ := at_T44 HR0.out x6_1 p48002 q48002
         obtain rfl : ad48001 = ad48002 := (by injection e48002)
         replace p48002 := eq_true p48002
         replace q48002 := eq_true q48002
         go_wp2
         go_roundg kj2
         case measure => have := HK1.out; have := HJ2.out; omega
         case rel => exact ⟨(wrap64 (x1_1 - ((rd_T44 l0 x6_1).f1))), (wrap64 (x6_1 + 1)), (by first | rfl | (simp; done) | (simp [*]; done)), (by first | rfl | (simp; done) | (simp [*]; done)), H', ⟨by have := HK1.out; have := HJ2.out; omega⟩, by repeat (first | exact Drawn0.refl _ | apply Drawn0.step)⟩
       ·rw [if_neg c7] at H
        exact absurd H (by simp)
      ·rw [if_neg c6] at H
       exact absurd H (by simp)
     ·replace c5 := Bool.eq_false_iff.mpr c5
      subst c5
      have H1 : (some ((-1), 0)) = some (r1, r2) := by rw [if_neg (show ¬ (false = true) by decide)] at H; first | exact H | simpa using H
      clear H
      have H := H1
      clear H1
      simp only [Option.some.injEq, Prod.mk.injEq] at H
      obtain ⟨rfl, rfl⟩ := H
      go_wp2
      go_ret2
      exact ⟨by first | rfl | (simp; done) | (simp [*]; done), by repeat (first | exact Drawn0.refl _ | apply Drawn0.step)⟩

end Go.Proofs.Ytalpegglbfobiaa.G

namespace Go.Proofs.Ytalpegglbfobiaa.G
open Go.RowKit Go.Proofs.YtalpegglbfobiaaW.PrintWords Go.Proofs.YtalpegglbfobiaaW.PrintLast Go.Proofs.YtalpegglbfobiaaW.PrintMore
attribute [local go_sem] max2_int min2_int max_two min_two max_three min_three max_four min_four   -- for this text's walks alone
set_option linter.unusedVariables false
set_option linter.unusedSimpArgs false

def papermillref13_limited.f (l0 : List (S44)) : Option ((List (S44)) × Int) := if (l0.length : Int) > 256 then (some (([] : List (S44)), 8)) else (some (l0, 0))
set_option maxHeartbeats 8000000 in
set_option maxRecDepth 100000 in
theorem papermillref13_limited.calls (P0_ : Nat → Prop) (u9000_ : Value) (l0 : List (S44)) (r1 : List (S44)) (r2 : Int) (w0 w : World) (hB : Below w0.heap.size w0 w) (ho0 : Kd.R k44 44 w w0.heap.size P0_ u9000_ l0) (h : papermillref13_limited.f l0 = some (r1, r2)) :
  Calls Try.prog 63 #[u9000_] w fun e w' => ∃ v0_ : Value, e = .returned (.tuple #[v0_, .int .i64 r2]) ∧ Kd.R k44 44 w' w0.heap.size (fun k_ => (P0_ k_ ∨ w.heap.size ≤ k_)) v0_ r1 ∧ Below w0.heap.size w0 w' ∧ Kept w w' (fun k_ => P0_ k_) := by
 have HO0 := Aside0.mk (show Kd.R k44 44 w w0.heap.size (fun k_ => (P0_ k_ ∨ w.heap.size ≤ k_)) u9000_ l0 from Kd.R_mono ho0 (fun k_ hk => (.inl hk)))
 have HK := Aside0.mk (Kept.refl w (fun k_ => P0_ k_))
 have HW0 := Aside0.mk hB.size
 have HB := Aside0.mk hB
 clear hB
 have H : (if (l0.length : Int) > 256 then (some (([] : List (S44)), 8)) else (some (l0, 0))) = some (r1, r2) := h
 clear h
 by_cases c2 : (l0.length : Int) > 256
 ·rw [if_pos c2] at H
  have c2b0 : decide (256 < (l0.length : Int)) = true := decide_eq_true c2
  have c2b1 : decide (256 < l0.length) = true := decide_eq_true (by omega)
  clear c2
  simp only [Option.some.injEq, Prod.mk.injEq] at H
  obtain ⟨rfl, rfl⟩ := H
  obtain ⟨Ao3, co3, eo3⟩ := Kd.R_slice HO0.out
  subst eo3
  go_enter Try.func63, Try.ntmps63
  go_wp2
  go_ret2
  exact ⟨_, by first | rfl | (simp [errW_none, errW_some] <;> rfl) | (simp [*, errW_none, errW_some] <;> rfl), by first | exact Kd.R_nil _ _ _ _ _ | exact Kd.N_nil _ _ _ _ _ | exact Kd.V_nil _ _ _ _ _ | exact Kd.Q_nil _ _ _ _ _ | exact Kd.S_nil _ _ _ _ _, by repeat (first | exact HB.out | apply below_alloc | apply pw_below_drewN | apply below_drew1), by repeat (first | (with_reducible first | exact HK.out | apply Kept.alloc | apply Kept.drewN | apply Kept.drew) | exact HK.out)⟩
 ·rw [if_neg c2] at H
  have c2b0 : decide (256 < (l0.length : Int)) = false := decide_eq_false c2
  have c2b1 : decide (256 < l0.length) = false := decide_eq_false (by omega)
  clear c2
  simp only [Option.some.injEq, Prod.mk.injEq] at H
  obtain ⟨rfl, rfl⟩ := H
  obtain ⟨Ao4, co4, eo4⟩ := Kd.R_slice HO0.out
  subst eo4
  go_enter Try.func63, Try.ntmps63
  go_wp2
  go_ret2
  exact ⟨_, by first | rfl | (simp [errW_none, errW_some] <;> rfl) | (simp [*, errW_none, errW_some] <;> rfl), by exact HO0.out, by repeat (first | exact HB.out | apply below_alloc | apply pw_below_drewN | apply below_drew1), by repeat (first | (with_reducible first | exact HK.out | apply Kept.alloc | apply Kept.drewN | apply Kept.drew) | exact HK.out)⟩

end Go.Proofs.Ytalpegglbfobiaa.G
