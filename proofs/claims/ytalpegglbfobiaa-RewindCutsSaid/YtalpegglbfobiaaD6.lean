import Derived.Test.YtalpegglbfobiaaQ1
import Derived.Test.YtalpegglbfobiaaQ4
import Derived.Test.YtalpegglbfobiaaQ3
import Derived.Deep.LoopGhost
import Derived.Sort.QuietIn
import Derived.Deep.Fields
import Derived.RangeFuncRecord
import Derived.StillTailTactics
namespace Go.Proofs.Ytalpegglbfobiaa.G
open Go.RowKit Go.Proofs.YtalpegglbfobiaaW.PrintWords Go.Proofs.YtalpegglbfobiaaW.PrintLast Go.Proofs.YtalpegglbfobiaaW.PrintMore
attribute [local go_sem] max2_int min2_int max_two min_two max_three min_three max_four min_four   -- for this text's walks alone
set_option linter.unusedVariables false
set_option linter.unusedSimpArgs false

def papermillref13_good.j0 : Nat → Bool → Int → Int → Bool → Option (Bool)
 | 0, _, _, _, _ => none
 | k + 1, x20, x46002000, x46002001, x46002002 => if x20 = true then (some false) else (if x46002002 = true then (some (decide ((wrap64 ((wrap64 (x46002000 - x46002001)) + 1)) ≥ 0))) else (some (decide ((wrap64 (x46002000 + x46002001)) ≤ 17179869184))))
def papermillref13_good.f (k : Nat) (a0_0 : Int) (a0_1 : Int) (a0_2 : Bool) : Option (Bool) := if a0_1 < 1 then (papermillref13_good.j0 k true a0_0 a0_1 a0_2) else (if a0_1 > 17179869184 then (papermillref13_good.j0 k true a0_0 a0_1 a0_2) else (if a0_0 < 0 then (papermillref13_good.j0 k true a0_0 a0_1 a0_2) else (papermillref13_good.j0 k (decide (a0_0 ≥ 17179869184)) a0_0 a0_1 a0_2)))
set_option maxHeartbeats 8000000 in
set_option maxRecDepth 100000 in
theorem papermillref13_good.calls (k : Nat) (a0_0 : Int) (a0_1 : Int) (a0_2 : Bool) (r : Bool) (w : World) (h : papermillref13_good.f k a0_0 a0_1 a0_2 = some r) :
  Calls Try.prog 45 #[.agg #[.int .i64 a0_0, .int .i64 a0_1, .bool a0_2]] w fun e w' => e = .returned (.bool r) ∧ Below w.heap.size w w' := by
 have hu44 := Try.underlying44
 have HB := Aside0.mk (Below.refl w.heap.size w)
 have H : (if a0_1 < 1 then (papermillref13_good.j0 k true a0_0 a0_1 a0_2) else (if a0_1 > 17179869184 then (papermillref13_good.j0 k true a0_0 a0_1 a0_2) else (if a0_0 < 0 then (papermillref13_good.j0 k true a0_0 a0_1 a0_2) else (papermillref13_good.j0 k (decide (a0_0 ≥ 17179869184)) a0_0 a0_1 a0_2)))) = some r := h
 clear h
 have HC2 := Aside0.mk H
 clear H
 go_enter Try.func45, Try.ntmps45
 go_upto_region 1 with (first | ((with_reducible refine gate_dst (N := 1) rfl ?_); refine box_event ?hg (N := 1) ?hd (cs := #[.int .i64 a0_0, .int .i64 a0_1, .bool a0_2]) (t := 44) ?hr ?_; (case hd => rfl); (case hg => rfl); (case hr => first | (go_simp; done) | (go_simp; rfl)); intro gb46001 hg w3 hbox hb; have n0_ := Aside0.mk (below_step (by repeat (first | exact HB.out | apply below_alloc | apply pw_below_drewN | apply below_drew1)) hb); have n1_ := Aside0.mk (hbox); have n2_ := Aside0.mk ((by rw [hg]; exact (below_size (by repeat (first | exact HB.out | apply below_alloc | apply pw_below_drewN | apply below_drew1))) : w.heap.size ≤ gb46001)); have n3_ := Aside0.mk ((by rw [hg]; exact (below_size (by repeat (first | exact HB.out | apply below_alloc | apply pw_below_drewN | apply below_drew1))) : w.heap.size ≤ gb46001)); clear HB; have HB := n0_; have BK46001 := n1_; have GW46001 := n2_; have GE46001 := n3_; clear n0_ n1_ n2_ n3_; clear hb hbox hg))
 (try simp only [Act.put, List.setIfInBounds_toArray, List.set_cons_zero, List.set_cons_succ])
 go_cut [20] (fun v20 wc => ∃ (kq : Nat) (x20_1 : Bool), v20 = .bool x20_1 ∧ Aside0 (papermillref13_good.j0 kq x20_1 a0_0 a0_1 a0_2 = some r) ∧ Aside0 (kq ≤ k) ∧ Aside0 (wc.heap[gb46001]? = some (.cells #[.int .i64 a0_0, .int .i64 a0_1, .bool a0_2] 44 (0, 0))) ∧ Aside0 (Below w.heap.size w wc))
 case first =>
  have H := HC2.out
  clear HC2
  by_cases c4 : a0_1 < 1
  ·rw [if_pos c4] at H
   have c4b0 : decide (a0_1 < 1) = true := decide_eq_true c4
   clear c4
   (first | rw [c4b0] | (simp only [i64_w, i32_w]; rw [c4b0]) | skip)
   have H' := Aside0.mk H
   clear H
   have hcz5_0 : w3.cell? ⟨gb46001, 0, none⟩ = some (.int .i64 a0_0) := (blk_cell BK46001.out 0).trans rfl
   have hcz5_1 : w3.cell? ⟨gb46001, 1, none⟩ = some (.int .i64 a0_1) := (blk_cell BK46001.out 1).trans rfl
   have hcz5_2 : w3.cell? ⟨gb46001, 2, none⟩ = some (.bool a0_2) := (blk_cell BK46001.out 2).trans rfl
   have hfz5_0 := blk_frozen BK46001.out 0
   have hfz5_1 := blk_frozen BK46001.out 1
   have hfz5_2 := blk_frozen BK46001.out 2
   go_wp2
   go_meet
   case rel => exact ⟨_, (true), (by first | rfl | (simp; done) | (simp [*]; done)), H', ⟨by first | omega | exact Nat.le_refl _⟩, ⟨BK46001.out⟩, ⟨by repeat (first | exact HB.out | apply below_alloc | apply pw_below_drewN | apply below_drew1 | refine below_set ?_ GE46001.out)⟩⟩
  ·rw [if_neg c4] at H
   have c4b0 : decide (a0_1 < 1) = false := decide_eq_false c4
   clear c4
   (first | rw [c4b0] | (simp only [i64_w, i32_w]; rw [c4b0]) | skip)
   by_cases c6 : a0_1 > 17179869184
   ·rw [if_pos c6] at H
    have c6b0 : decide (17179869184 < a0_1) = true := decide_eq_true c6
    clear c6
    have H' := Aside0.mk H
    clear H
    have hcz7_0 : w3.cell? ⟨gb46001, 0, none⟩ = some (.int .i64 a0_0) := (blk_cell BK46001.out 0).trans rfl
    have hcz7_1 : w3.cell? ⟨gb46001, 1, none⟩ = some (.int .i64 a0_1) := (blk_cell BK46001.out 1).trans rfl
    have hcz7_2 : w3.cell? ⟨gb46001, 2, none⟩ = some (.bool a0_2) := (blk_cell BK46001.out 2).trans rfl
    have hfz7_0 := blk_frozen BK46001.out 0
    have hfz7_1 := blk_frozen BK46001.out 1
    have hfz7_2 := blk_frozen BK46001.out 2
    go_wp2
    go_meet
    case rel => exact ⟨_, (true), (by first | rfl | (simp; done) | (simp [*]; done)), H', ⟨by first | omega | exact Nat.le_refl _⟩, ⟨BK46001.out⟩, ⟨by repeat (first | exact HB.out | apply below_alloc | apply pw_below_drewN | apply below_drew1 | refine below_set ?_ GE46001.out)⟩⟩
   ·rw [if_neg c6] at H
    have c6b0 : decide (17179869184 < a0_1) = false := decide_eq_false c6
    clear c6
    by_cases c8 : a0_0 < 0
    ·rw [if_pos c8] at H
     have c8b0 : decide (a0_0 < 0) = true := decide_eq_true c8
     clear c8
     have H' := Aside0.mk H
     clear H
     have hcz9_0 : w3.cell? ⟨gb46001, 0, none⟩ = some (.int .i64 a0_0) := (blk_cell BK46001.out 0).trans rfl
     have hcz9_1 : w3.cell? ⟨gb46001, 1, none⟩ = some (.int .i64 a0_1) := (blk_cell BK46001.out 1).trans rfl
     have hcz9_2 : w3.cell? ⟨gb46001, 2, none⟩ = some (.bool a0_2) := (blk_cell BK46001.out 2).trans rfl
     have hfz9_0 := blk_frozen BK46001.out 0
     have hfz9_1 := blk_frozen BK46001.out 1
     have hfz9_2 := blk_frozen BK46001.out 2
     go_wp2
     go_meet
     case rel => exact ⟨_, (true), (by first | rfl | (simp; done) | (simp [*]; done)), H', ⟨by first | omega | exact Nat.le_refl _⟩, ⟨BK46001.out⟩, ⟨by repeat (first | exact HB.out | apply below_alloc | apply pw_below_drewN | apply below_drew1 | refine below_set ?_ GE46001.out)⟩⟩
    ·rw [if_neg c8] at H
     have c8b0 : decide (a0_0 < 0) = false := decide_eq_false c8
     clear c8
     have H' := Aside0.mk H
     clear H
     have hcz10_0 : w3.cell? ⟨gb46001, 0, none⟩ = some (.int .i64 a0_0) := (blk_cell BK46001.out 0).trans rfl
     have hcz10_1 : w3.cell? ⟨gb46001, 1, none⟩ = some (.int .i64 a0_1) := (blk_cell BK46001.out 1).trans rfl
     have hcz10_2 : w3.cell? ⟨gb46001, 2, none⟩ = some (.bool a0_2) := (blk_cell BK46001.out 2).trans rfl
     have hfz10_0 := blk_frozen BK46001.out 0
     have hfz10_1 := blk_frozen BK46001.out 1
     have hfz10_2 := blk_frozen BK46001.out 2
     go_wp2
     go_meet
     case rel => exact ⟨_, (decide (a0_0 ≥ 17179869184)), (by first | rfl | (simp; done) | (simp [*]; done)), H', ⟨by first | omega | exact Nat.le_refl _⟩, ⟨BK46001.out⟩, ⟨by repeat (first | exact HB.out | apply below_alloc | apply pw_below_drewN | apply below_drew1 | refine below_set ?_ GE46001.out)⟩⟩
 case rest =>
  clear HC2
  try clear p2
  try clear c4
  try clear c4b0
  try clear c6
  try clear c6b0
  try clear c8
  try clear c8b0
  try clear hcz10_0
  try clear hcz10_1
  try clear hcz10_2
  try clear hcz5_0
  try clear hcz5_1
  try clear hcz5_2
  try clear hcz7_0
  try clear hcz7_1
  try clear hcz7_2
  try clear hcz9_0
  try clear hcz9_1
  try clear hcz9_2
  try clear hfz10_0
  try clear hfz10_1
  try clear hfz10_2
  try clear hfz5_0
  try clear hfz5_1
  try clear hfz5_2
  try clear hfz7_0
  try clear hfz7_1
  try clear hfz7_2
  try clear hfz9_0
  try clear hfz9_1
  try clear hfz9_2
  obtain ⟨kq, x20_1, rfl, HA, HJ1, BK46001, HB⟩ := hcut
  cases kq with
  | zero => exact absurd HA.out (by simp [papermillref13_good.j0])
  | succ kj1 =>
   have H := HA.out
   clear HA
   simp only [papermillref13_good.j0] at H
   by_cases c11 : x20_1 = true
   ·subst c11
    have H1 : (some false) = some r := by rw [if_pos rfl] at H; exact H
    clear H
    have H := H1
    clear H1
    obtain rfl := Option.some.inj H
    go_wp2
    go_ret
    exact ⟨by first | rfl | (simp [errW_none, errW_some] <;> rfl) | (simp [*, errW_none, errW_some] <;> rfl), by repeat (first | exact HB.out | apply below_alloc | apply pw_below_drewN | apply below_drew1 | refine below_set ?_ GE46001.out)⟩
   ·replace c11 := Bool.eq_false_iff.mpr c11
    subst c11
    have H1 : (if a0_2 = true then (some (decide ((wrap64 ((wrap64 (a0_0 - a0_1)) + 1)) ≥ 0))) else (some (decide ((wrap64 (a0_0 + a0_1)) ≤ 17179869184)))) = some r := by rw [if_neg (show ¬ (false = true) by decide)] at H; first | exact H | simpa using H
    clear H
    have H := H1
    clear H1
    by_cases c12 : a0_2 = true
    ·subst c12
     have H1 : (some (decide ((wrap64 ((wrap64 (a0_0 - a0_1)) + 1)) ≥ 0))) = some r := by rw [if_pos rfl] at H; exact H
     clear H
     have H := H1
     clear H1
     obtain rfl := Option.some.inj H
     have hcz13_0 : wc.cell? ⟨gb46001, 0, none⟩ = some (.int .i64 a0_0) := (blk_cell BK46001.out 0).trans rfl
     have hcz13_1 : wc.cell? ⟨gb46001, 1, none⟩ = some (.int .i64 a0_1) := (blk_cell BK46001.out 1).trans rfl
     have hcz13_2 : wc.cell? ⟨gb46001, 2, none⟩ = some (.bool true) := (blk_cell BK46001.out 2).trans rfl
     have hfz13_0 := blk_frozen BK46001.out 0
     have hfz13_1 := blk_frozen BK46001.out 1
     have hfz13_2 := blk_frozen BK46001.out 2
     go_wp2
     go_ret
     exact ⟨by first | rfl | (simp [errW_none, errW_some] <;> rfl) | (simp [*, errW_none, errW_some] <;> rfl), by repeat (first | exact HB.out | apply below_alloc | apply pw_below_drewN | apply below_drew1 | refine below_set ?_ GE46001.out)⟩
    ·replace c12 := Bool.eq_false_iff.mpr c12
     subst c12
     have H1 : (some (decide ((wrap64 (a0_0 + a0_1)) ≤ 17179869184))) = some r := by rw [if_neg (show ¬ (false = true) by decide)] at H; first | exact H | simpa using H
     clear H
     have H := H1
     clear H1
     obtain rfl := Option.some.inj H
     have hcz14_0 : wc.cell? ⟨gb46001, 0, none⟩ = some (.int .i64 a0_0) := (blk_cell BK46001.out 0).trans rfl
     have hcz14_1 : wc.cell? ⟨gb46001, 1, none⟩ = some (.int .i64 a0_1) := (blk_cell BK46001.out 1).trans rfl
     have hcz14_2 : wc.cell? ⟨gb46001, 2, none⟩ = some (.bool false) := (blk_cell BK46001.out 2).trans rfl
     have hfz14_0 := blk_frozen BK46001.out 0
     have hfz14_1 := blk_frozen BK46001.out 1
     have hfz14_2 := blk_frozen BK46001.out 2
     go_wp2
     go_ret
     exact ⟨by first | rfl | (simp [errW_none, errW_some] <;> rfl) | (simp [*, errW_none, errW_some] <;> rfl), by repeat (first | exact HB.out | apply below_alloc | apply pw_below_drewN | apply below_drew1 | refine below_set ?_ GE46001.out)⟩

end Go.Proofs.Ytalpegglbfobiaa.G

namespace Go.Proofs.Ytalpegglbfobiaa.G
open Go.RowKit Go.Proofs.YtalpegglbfobiaaW.PrintWords Go.Proofs.YtalpegglbfobiaaW.PrintLast Go.Proofs.YtalpegglbfobiaaW.PrintMore
attribute [local go_sem] max2_int min2_int max_two min_two max_three min_three max_four min_four   -- for this text's walks alone
set_option linter.unusedVariables false
set_option linter.unusedSimpArgs false

def papermillref13_length.l0 : Nat → List (S44) → Int → Int → Option (Int)
 | 0, _, _, _ => none
 | k + 1, x0, x3, x4 => if x4 < (x0.length : Int) then (if 0 ≤ x4 then (papermillref13_length.l0 k x0 (wrap64 (x3 + ((rd_T44 x0 x4).f1))) (wrap64 (x4 + 1))) else (none)) else (some x3)
def papermillref13_length.f (k : Nat) (l0 : List (S44)) : Option (Int) := papermillref13_length.l0 k l0 0 0
set_option maxHeartbeats 8000000 in
set_option maxRecDepth 100000 in
theorem papermillref13_length.calls (k : Nat) (A0 : Option Addr) (c0 : Nat) (l0 : List (S44)) (r : Int) (w : World) (hr0 : Kd.C k44 w A0 l0.length l0) (hc0 : l0.length ≤ c0) (h : papermillref13_length.f k l0 = some r) :
  Calls Try.prog 46 #[.slice A0 l0.length c0] w fun e w' => e = .returned (.int .i64 r) ∧ Drawn0 w w' := by
 have HR0 := Aside0.mk hr0
 have HC0 := Aside0.mk hc0
 clear hr0 hc0
 have H : (papermillref13_length.l0 k l0 0 0) = some r := h
 clear h
 have H' := Aside0.mk H
 clear H
 go_enter Try.func46, Try.ntmps46
 go_wp2
 go_loopg [3, 4] k (fun kq v3 v4 w' => ∃ (x3_1 : Int) (x4_1 : Int), v3 = .int .i64 x3_1 ∧ v4 = .int .i64 x4_1 ∧ Aside0 (papermillref13_length.l0 kq l0 x3_1 x4_1 = some r) ∧ Aside0 (kq ≤ k) ∧ Drawn0 w w')
 case atStart => exact ⟨(0), (0), (by first | rfl | (simp; done) | (simp [*]; done)), (by first | rfl | (simp; done) | (simp [*]; done)), H', ⟨Nat.le_refl _⟩, by repeat (first | exact Drawn0.refl _ | apply Drawn0.step)⟩
 case round =>
  clear H'
  obtain ⟨x3_1, x4_1, rfl, rfl, HA, HK1, ⟨m1, rfl⟩⟩ := hrel
  cases gk with
  | zero => exact absurd HA.out (by simp [papermillref13_length.l0])
  | succ k1 =>
   have H := HA.out
   clear HA
   simp only [papermillref13_length.l0] at H
   by_cases c2 : x4_1 < (l0.length : Int)
   ·rw [if_pos c2] at H
    have c2b0 : decide (x4_1 < (l0.length : Int)) = true := decide_eq_true c2
    clear c2
    by_cases c3 : 0 ≤ x4_1
    ·rw [if_pos c3] at H
     have c3b0 : decide (0 ≤ x4_1) = true := decide_eq_true c3
     clear c3
     have H' := Aside0.mk H
     clear H
     have p47001 : 0 ≤ (x4_1 : Int) := of_decide_eq_true (by assumption)
     have q47001 : x4_1 < (l0.length : Int) := of_decide_eq_true (by assumption)
     obtain ⟨ad47001, e47001, hx47001_0, hx47001_1, hx47001_2⟩ := at_T44 HR0.out x4_1 p47001 q47001
     cases e47001
     replace p47001 := eq_true p47001
     replace q47001 := eq_true q47001
     go_wp2
     go_roundg k1
     case measure => have := HK1.out; omega
     case rel => exact ⟨(wrap64 (x3_1 + ((rd_T44 l0 x4_1).f1))), (wrap64 (x4_1 + 1)), (by first | rfl | (simp; done) | (simp [*]; done)), (by first | rfl | (simp; done) | (simp [*]; done)), H', ⟨by have := HK1.out; omega⟩, by repeat (first | exact Drawn0.refl _ | apply Drawn0.step)⟩
    ·rw [if_neg c3] at H
     exact absurd H (by simp)
   ·rw [if_neg c2] at H
    have c2b0 : decide (x4_1 < (l0.length : Int)) = false := decide_eq_false c2
    clear c2
    obtain rfl := Option.some.inj H
    go_wp2
    go_ret
    exact ⟨by first | rfl | (simp; done) | (simp [*]; done), by repeat (first | exact Drawn0.refl _ | apply Drawn0.step)⟩

end Go.Proofs.Ytalpegglbfobiaa.G

namespace Go.Proofs.Ytalpegglbfobiaa.G
open Go.RowKit Go.Proofs.YtalpegglbfobiaaW.PrintWords Go.Proofs.YtalpegglbfobiaaW.PrintLast Go.Proofs.YtalpegglbfobiaaW.PrintMore
attribute [local go_sem] max2_int min2_int max_two min_two max_three min_three max_four min_four   -- for this text's walks alone
set_option linter.unusedVariables false
set_option linter.unusedSimpArgs false

def papermillref13_Check.l0 : Nat → List (S44) → Int → Option (Int)
 | 0, _, _ => none
 | k + 1, x0, x3 => if x3 < (x0.length : Int) then (if 0 ≤ x3 then ((papermillref13_good.f k ((rd_T44 x0 x3).f0) ((rd_T44 x0 x3).f1) ((rd_T44 x0 x3).f2)).bind fun t26002 => (if t26002 = true then (papermillref13_Check.l0 k x0 (wrap64 (x3 + 1))) else (some 1))) else (none)) else ((papermillref13_length.f k x0).bind fun t26003 => (if t26003 > 17179869184 then (some 21) else (some 0)))
def papermillref13_Check.f (k : Nat) (l0 : List (S44)) : Option (Int) := if (l0.length : Int) > 256 then (some 8) else (papermillref13_Check.l0 k l0 0)
set_option maxHeartbeats 8000000 in
set_option maxRecDepth 100000 in
theorem papermillref13_Check.calls (k : Nat) (A0 : Option Addr) (c0 : Nat) (l0 : List (S44)) (r : Int) (w : World) (hr0 : Kd.C k44 w A0 l0.length l0) (hc0 : l0.length ≤ c0) (h : papermillref13_Check.f k l0 = some r) :
  Calls Try.prog 25 #[.slice A0 l0.length c0] w fun e w' => e = .returned (.int .i64 r) ∧ Below w.heap.size w w' := by
 have hu44 := Try.underlying44
 have HR0 := Aside0.mk hr0
 have HC0 := Aside0.mk hc0
 clear hr0 hc0
 have HB := Aside0.mk (Below.refl w.heap.size w)
 have H : (if (l0.length : Int) > 256 then (some 8) else (papermillref13_Check.l0 k l0 0)) = some r := h
 clear h
 by_cases c2 : (l0.length : Int) > 256
 ·rw [if_pos c2] at H
  have c2b0 : decide (256 < (l0.length : Int)) = true := decide_eq_true c2
  have c2b1 : decide (256 < l0.length) = true := decide_eq_true (by omega)
  clear c2
  obtain rfl := Option.some.inj H
  go_enter Try.func25, Try.ntmps25
  go_wp2
  go_ret
  exact ⟨by first | rfl | (simp [errW_none, errW_some] <;> rfl) | (simp [*, errW_none, errW_some] <;> rfl), by repeat (first | exact HB.out | apply below_alloc | apply pw_below_drewN | apply below_drew1)⟩
 ·rw [if_neg c2] at H
  have c2b0 : decide (256 < (l0.length : Int)) = false := decide_eq_false c2
  have c2b1 : decide (256 < l0.length) = false := decide_eq_false (by omega)
  clear c2
  have H' := Aside0.mk H
  clear H
  go_enter Try.func25, Try.ntmps25
  go_wp2
  go_loopg [3] k (fun kq v3 w' => ∃ (x3_1 : Int), v3 = .int .i64 x3_1 ∧ Aside0 (papermillref13_Check.l0 kq l0 x3_1 = some r) ∧ Aside0 (kq ≤ k) ∧ Aside0 (Below w.heap.size w w'))
  case atStart => exact ⟨(0), (by first | rfl | (simp; done) | (simp [*]; done)), H', ⟨Nat.le_refl _⟩, ⟨by repeat (first | exact HB.out | apply below_alloc | apply pw_below_drewN | apply below_drew1)⟩⟩
  case round =>
   clear H'
   try clear c2
   try clear c2b0
   try clear c2b1
   try clear p2
   obtain ⟨x3_1, rfl, HA, HK1, HB⟩ := hrel
   cases gk with
   | zero => exact absurd HA.out (by simp [papermillref13_Check.l0])
   | succ k1 =>
    have H := HA.out
    clear HA
    simp only [papermillref13_Check.l0] at H
    by_cases c3 : x3_1 < (l0.length : Int)
    ·rw [if_pos c3] at H
     have c3b0 : decide (x3_1 < (l0.length : Int)) = true := decide_eq_true c3
     clear c3
     by_cases c4 : 0 ≤ x3_1
     ·rw [if_pos c4] at H
      have c4b0 : decide (0 ≤ x3_1) = true := decide_eq_true c4
      clear c4
      replace H := Option.bind_eq_some_iff.mp H
      obtain ⟨t26002, A50, H⟩ := H
      replace H : (if t26002 = true then (papermillref13_Check.l0 k1 l0 (wrap64 (x3_1 + 1))) else (some 1)) = some r := H
      have A5 := Aside0.mk A50
      clear A50
      by_cases c6 : t26002 = true
      ·subst c6
       have H1 : (papermillref13_Check.l0 k1 l0 (wrap64 (x3_1 + 1))) = some r := by rw [if_pos rfl] at H; exact H
       clear H
       have H := H1
       clear H1
       have H' := Aside0.mk H
       clear H
       have p26001 : 0 ≤ (x3_1 : Int) := of_decide_eq_true (by assumption)
       have q26001 : x3_1 < (l0.length : Int) := of_decide_eq_true (by assumption)
       obtain ⟨ad26001, e26001, hx26001_0, hx26001_1, hx26001_2⟩ := at_T44 HR0.out x3_1 p26001 q26001
       cases e26001
       replace hx26001_0 := (HB.out.cell (World.block_lt_of_cell? w _ hx26001_0)).trans hx26001_0
       replace hx26001_1 := (HB.out.cell (World.block_lt_of_cell? w _ hx26001_1)).trans hx26001_1
       replace hx26001_2 := (HB.out.cell (World.block_lt_of_cell? w _ hx26001_2)).trans hx26001_2
       replace p26001 := eq_true p26001
       replace q26001 := eq_true q26001
       go_wp2_with (first | ((with_reducible refine gate_callee (f := 45) rfl ?_); refine goesL_ (some 17) rfl rfl Try.func45 (by kernel_rfl) rfl #[.agg #[.int .i64 ((rd_T44 l0 x3_1).f0), .int .i64 ((rd_T44 l0 x3_1).f1), .bool ((rd_T44 l0 x3_1).f2)]] rfl (by (try simp only [List.map_toArray, List.map_cons, List.map_nil]); first | done | rfl | (simp only [List.length_drop, List.length_take]; rfl)) ?_; (with_reducible refine (papermillref13_good.calls k1 ((rd_T44 l0 x3_1).f0) ((rd_T44 l0 x3_1).f1) ((rd_T44 l0 x3_1).f2) true _ A5.out).mono ?_); rintro e w7 ⟨rfl, hb⟩; refine ⟨_, rfl, ?_⟩; have n0_ := Aside0.mk (below_step (by repeat (first | exact HB.out | apply below_alloc | apply pw_below_drewN | apply below_drew1)) hb); clear HB; have HB := n0_; clear n0_; (try clear hb); (try clear hb2); (try clear hk); (try clear hi)))
       go_roundg k1
       case measure => have := HK1.out; omega
       case rel => exact ⟨(wrap64 (x3_1 + 1)), (by first | rfl | (simp; done) | (simp [*]; done)), H', ⟨by have := HK1.out; omega⟩, ⟨by repeat (first | exact HB.out | apply below_alloc | apply pw_below_drewN | apply below_drew1)⟩⟩
      ·replace c6 := Bool.eq_false_iff.mpr c6
       subst c6
       have H1 : (some 1) = some r := by rw [if_neg (show ¬ (false = true) by decide)] at H; first | exact H | simpa using H
       clear H
       have H := H1
       clear H1
       obtain rfl := Option.some.inj H
       have p26001 : 0 ≤ (x3_1 : Int) := of_decide_eq_true (by assumption)
       have q26001 : x3_1 < (l0.length : Int) := of_decide_eq_true (by assumption)
       obtain ⟨ad26001, e26001, hx26001_0, hx26001_1, hx26001_2⟩ := at_T44 HR0.out x3_1 p26001 q26001
       cases e26001
       replace hx26001_0 := (HB.out.cell (World.block_lt_of_cell? w _ hx26001_0)).trans hx26001_0
       replace hx26001_1 := (HB.out.cell (World.block_lt_of_cell? w _ hx26001_1)).trans hx26001_1
       replace hx26001_2 := (HB.out.cell (World.block_lt_of_cell? w _ hx26001_2)).trans hx26001_2
       replace p26001 := eq_true p26001
       replace q26001 := eq_true q26001
       go_wp2_with (first | ((with_reducible refine gate_callee (f := 45) rfl ?_); refine goesL_ (some 17) rfl rfl Try.func45 (by kernel_rfl) rfl #[.agg #[.int .i64 ((rd_T44 l0 x3_1).f0), .int .i64 ((rd_T44 l0 x3_1).f1), .bool ((rd_T44 l0 x3_1).f2)]] rfl (by (try simp only [List.map_toArray, List.map_cons, List.map_nil]); first | done | rfl | (simp only [List.length_drop, List.length_take]; rfl)) ?_; (with_reducible refine (papermillref13_good.calls k1 ((rd_T44 l0 x3_1).f0) ((rd_T44 l0 x3_1).f1) ((rd_T44 l0 x3_1).f2) false _ A5.out).mono ?_); rintro e w8 ⟨rfl, hb⟩; refine ⟨_, rfl, ?_⟩; have n0_ := Aside0.mk (below_step (by repeat (first | exact HB.out | apply below_alloc | apply pw_below_drewN | apply below_drew1)) hb); clear HB; have HB := n0_; clear n0_; (try clear hb); (try clear hb2); (try clear hk); (try clear hi)))
       go_ret
       exact ⟨by first | rfl | (simp [errW_none, errW_some] <;> rfl) | (simp [*, errW_none, errW_some] <;> rfl), by repeat (first | exact HB.out | apply below_alloc | apply pw_below_drewN | apply below_drew1)⟩
     ·rw [if_neg c4] at H
      exact absurd H (by simp)
    ·rw [if_neg c3] at H
     have c3b0 : decide (x3_1 < (l0.length : Int)) = false := decide_eq_false c3
     clear c3
     replace H := Option.bind_eq_some_iff.mp H
     obtain ⟨t26003, A90, H⟩ := H
     replace H : (if t26003 > 17179869184 then (some 21) else (some 0)) = some r := H
     have A9 := Aside0.mk A90
     clear A90
     by_cases c10 : t26003 > 17179869184
     ·rw [if_pos c10] at H
      have c10b0 : decide (17179869184 < t26003) = true := decide_eq_true c10
      clear c10
      obtain rfl := Option.some.inj H
      go_wp2_with (first | ((with_reducible refine gate_callee (f := 46) rfl ?_); refine goesL_ (some 20) rfl rfl Try.func46 (by kernel_rfl) rfl #[.slice A0 l0.length c0] rfl (by (try simp only [List.map_toArray, List.map_cons, List.map_nil]); first | done | rfl | (simp only [List.length_drop, List.length_take]; rfl)) ?_; (with_reducible refine (papermillref13_length.calls k1 _ _ l0 t26003 _ ?side1 ?side2 A9.out).mono ?_); (case side1 => exact (Kd.C_below HR0.out HB.out)); (case side2 => exact HC0.out); rintro e w' ⟨rfl, ⟨nd, rfl⟩⟩; refine ⟨_, rfl, ?_⟩))
      go_ret
      exact ⟨by first | rfl | (simp [errW_none, errW_some] <;> rfl) | (simp [*, errW_none, errW_some] <;> rfl), by repeat (first | exact HB.out | apply below_alloc | apply pw_below_drewN | apply below_drew1)⟩
     ·rw [if_neg c10] at H
      have c10b0 : decide (17179869184 < t26003) = false := decide_eq_false c10
      clear c10
      obtain rfl := Option.some.inj H
      go_wp2_with (first | ((with_reducible refine gate_callee (f := 46) rfl ?_); refine goesL_ (some 20) rfl rfl Try.func46 (by kernel_rfl) rfl #[.slice A0 l0.length c0] rfl (by (try simp only [List.map_toArray, List.map_cons, List.map_nil]); first | done | rfl | (simp only [List.length_drop, List.length_take]; rfl)) ?_; (with_reducible refine (papermillref13_length.calls k1 _ _ l0 t26003 _ ?side1 ?side2 A9.out).mono ?_); (case side1 => exact (Kd.C_below HR0.out HB.out)); (case side2 => exact HC0.out); rintro e w' ⟨rfl, ⟨nd, rfl⟩⟩; refine ⟨_, rfl, ?_⟩))
      go_ret
      exact ⟨by first | rfl | (simp [errW_none, errW_some] <;> rfl) | (simp [*, errW_none, errW_some] <;> rfl), by repeat (first | exact HB.out | apply below_alloc | apply pw_below_drewN | apply below_drew1)⟩

end Go.Proofs.Ytalpegglbfobiaa.G

namespace Go.Proofs.Ytalpegglbfobiaa.G
open Go.RowKit Go.Proofs.YtalpegglbfobiaaW.PrintWords Go.Proofs.YtalpegglbfobiaaW.PrintLast Go.Proofs.YtalpegglbfobiaaW.PrintMore
attribute [local go_sem] max2_int min2_int max_two min_two max_three min_three max_four min_four   -- for this text's walks alone
set_option linter.unusedVariables false
set_option linter.unusedSimpArgs false

def papermillref13_image.f (a0_0 : Int) (a0_1 : Int) (a0_2 : Bool) (a1 : Int) : Option (Int) := if a0_2 = true then (some (wrap64 (a0_0 - a1))) else (some (wrap64 (a0_0 + a1)))
set_option maxHeartbeats 8000000 in
set_option maxRecDepth 100000 in
theorem papermillref13_image.calls (a0_0 : Int) (a0_1 : Int) (a0_2 : Bool) (a1 : Int) (r : Int) (w : World) (h : papermillref13_image.f a0_0 a0_1 a0_2 a1 = some r) :
  Calls Try.prog 48 #[.agg #[.int .i64 a0_0, .int .i64 a0_1, .bool a0_2], .int .i64 a1] w fun e w' => e = .returned (.int .i64 r) ∧ Below w.heap.size w w' := by
 have hu44 := Try.underlying44
 have HB := Aside0.mk (Below.refl w.heap.size w)
 have H : (if a0_2 = true then (some (wrap64 (a0_0 - a1))) else (some (wrap64 (a0_0 + a1)))) = some r := h
 clear h
 by_cases c3 : a0_2 = true
 ·subst c3
  have H1 : (some (wrap64 (a0_0 - a1))) = some r := by rw [if_pos rfl] at H; exact H
  clear H
  have H := H1
  clear H1
  obtain rfl := Option.some.inj H
  go_enter Try.func48, Try.ntmps48
  go_wp2_with (first | ((with_reducible refine gate_dst (N := 2) rfl ?_); refine box_event ?hg (N := 2) ?hd (cs := #[.int .i64 a0_0, .int .i64 a0_1, .bool true]) (t := 44) ?hr ?_; (case hd => rfl); (case hg => rfl); (case hr => first | (go_simp; done) | (go_simp; rfl)); intro gb49001 hg w4 hbox hb; have n0_ := Aside0.mk (below_step (by repeat (first | exact HB.out | apply below_alloc | apply pw_below_drewN | apply below_drew1)) hb); have n1_ := Aside0.mk (hbox); have n2_ := Aside0.mk ((by rw [hg]; exact (below_size (by repeat (first | exact HB.out | apply below_alloc | apply pw_below_drewN | apply below_drew1))) : w.heap.size ≤ gb49001)); have n3_ := Aside0.mk ((by rw [hg]; exact (below_size (by repeat (first | exact HB.out | apply below_alloc | apply pw_below_drewN | apply below_drew1))) : w.heap.size ≤ gb49001)); clear HB; have HB := n0_; have BK49001 := n1_; have GW49001 := n2_; have GE49001 := n3_; clear n0_ n1_ n2_ n3_; clear hb hbox hg; have hcz5_0 : w4.cell? ⟨gb49001, 0, none⟩ = some (.int .i64 a0_0) := (blk_cell BK49001.out 0).trans rfl; have hcz5_1 : w4.cell? ⟨gb49001, 1, none⟩ = some (.int .i64 a0_1) := (blk_cell BK49001.out 1).trans rfl; have hcz5_2 : w4.cell? ⟨gb49001, 2, none⟩ = some (.bool true) := (blk_cell BK49001.out 2).trans rfl; have hfz5_0 := blk_frozen BK49001.out 0; have hfz5_1 := blk_frozen BK49001.out 1; have hfz5_2 := blk_frozen BK49001.out 2))
  go_ret
  exact ⟨by first | rfl | (simp [errW_none, errW_some] <;> rfl) | (simp [*, errW_none, errW_some] <;> rfl), by repeat (first | exact HB.out | apply below_alloc | apply pw_below_drewN | apply below_drew1 | refine below_set ?_ GE49001.out)⟩
 ·replace c3 := Bool.eq_false_iff.mpr c3
  subst c3
  have H1 : (some (wrap64 (a0_0 + a1))) = some r := by rw [if_neg (show ¬ (false = true) by decide)] at H; first | exact H | simpa using H
  clear H
  have H := H1
  clear H1
  obtain rfl := Option.some.inj H
  go_enter Try.func48, Try.ntmps48
  go_wp2_with (first | ((with_reducible refine gate_dst (N := 2) rfl ?_); refine box_event ?hg (N := 2) ?hd (cs := #[.int .i64 a0_0, .int .i64 a0_1, .bool false]) (t := 44) ?hr ?_; (case hd => rfl); (case hg => rfl); (case hr => first | (go_simp; done) | (go_simp; rfl)); intro gb49001 hg w6 hbox hb; have n0_ := Aside0.mk (below_step (by repeat (first | exact HB.out | apply below_alloc | apply pw_below_drewN | apply below_drew1)) hb); have n1_ := Aside0.mk (hbox); have n2_ := Aside0.mk ((by rw [hg]; exact (below_size (by repeat (first | exact HB.out | apply below_alloc | apply pw_below_drewN | apply below_drew1))) : w.heap.size ≤ gb49001)); have n3_ := Aside0.mk ((by rw [hg]; exact (below_size (by repeat (first | exact HB.out | apply below_alloc | apply pw_below_drewN | apply below_drew1))) : w.heap.size ≤ gb49001)); clear HB; have HB := n0_; have BK49001 := n1_; have GW49001 := n2_; have GE49001 := n3_; clear n0_ n1_ n2_ n3_; clear hb hbox hg; have hcz7_0 : w6.cell? ⟨gb49001, 0, none⟩ = some (.int .i64 a0_0) := (blk_cell BK49001.out 0).trans rfl; have hcz7_1 : w6.cell? ⟨gb49001, 1, none⟩ = some (.int .i64 a0_1) := (blk_cell BK49001.out 1).trans rfl; have hcz7_2 : w6.cell? ⟨gb49001, 2, none⟩ = some (.bool false) := (blk_cell BK49001.out 2).trans rfl; have hfz7_0 := blk_frozen BK49001.out 0; have hfz7_1 := blk_frozen BK49001.out 1; have hfz7_2 := blk_frozen BK49001.out 2))
  go_ret
  exact ⟨by first | rfl | (simp [errW_none, errW_some] <;> rfl) | (simp [*, errW_none, errW_some] <;> rfl), by repeat (first | exact HB.out | apply below_alloc | apply pw_below_drewN | apply below_drew1 | refine below_set ?_ GE49001.out)⟩

end Go.Proofs.Ytalpegglbfobiaa.G

namespace Go.Proofs.Ytalpegglbfobiaa.G
open Go.RowKit Go.Proofs.YtalpegglbfobiaaW.PrintWords Go.Proofs.YtalpegglbfobiaaW.PrintLast Go.Proofs.YtalpegglbfobiaaW.PrintMore
attribute [local go_sem] max2_int min2_int max_two min_two max_three min_three max_four min_four   -- for this text's walks alone
set_option linter.unusedVariables false
set_option linter.unusedSimpArgs false

mutual
def papermillref13_place.l0 : Nat → List (S44) → Int → Int → Option (Int × Int)
 | 0, _, _, _ => none
 | k + 1, x0, x1, x6 => if x6 < (x0.length : Int) then (papermillref13_place.j1 k x0 x1 x6 (decide (x1 ≥ 0))) else (papermillref13_place.j1 k x0 x1 x6 false)
def papermillref13_place.j1 : Nat → List (S44) → Int → Int → Bool → Option (Int × Int)
 | 0, _, _, _, _ => none
 | k + 1, x0, x1, x6, x14 => if x14 = true then (if 0 ≤ x6 then (if x6 < (x0.length : Int) then (if x1 < ((rd_T44 x0 x6).f1) then (some (x6, x1)) else (papermillref13_place.l0 k x0 (wrap64 (x1 - ((rd_T44 x0 x6).f1))) (wrap64 (x6 + 1)))) else (none)) else (none)) else (some ((-1), 0))
end
def papermillref13_place.f (k : Nat) (l0 : List (S44)) (a1 : Int) : Option (Int × Int) := papermillref13_place.l0 k l0 a1 0
set_option maxHeartbeats 8000000 in
set_option maxRecDepth 100000 in
theorem papermillref13_place.calls (k : Nat) (A0 : Option Addr) (c0 : Nat) (l0 : List (S44)) (a1 : Int) (r1 : Int) (r2 : Int) (w : World) (hr0 : Kd.C k44 w A0 l0.length l0) (hc0 : l0.length ≤ c0) (h : papermillref13_place.f k l0 a1 = some (r1, r2)) :
  Calls Try.prog 47 #[.slice A0 l0.length c0, .int .i64 a1] w fun e w' => e = .returned (.tuple #[.int .i64 r1, .int .i64 r2]) ∧ Drawn0 w w' := by
 have HR0 := Aside0.mk hr0
 have HC0 := Aside0.mk hc0
 clear hr0 hc0
 have H : (papermillref13_place.l0 k l0 a1 0) = some (r1, r2) := h
 clear h
 have H' := Aside0.mk H
 clear H
 go_enter Try.func47, Try.ntmps47
 go_wp2
 go_loopg [1, 6] k (fun kq v1 v6 w' => ∃ (x1_1 : Int) (x6_1 : Int), v1 = .int .i64 x1_1 ∧ v6 = .int .i64 x6_1 ∧ Aside0 (papermillref13_place.l0 kq l0 x1_1 x6_1 = some (r1, r2)) ∧ Aside0 (kq ≤ k) ∧ Drawn0 w w')
 case atStart => exact ⟨(a1), (0), (by first | rfl | (simp; done) | (simp [*]; done)), (by first | rfl | (simp; done) | (simp [*]; done)), H', ⟨Nat.le_refl _⟩, by repeat (first | exact Drawn0.refl _ | apply Drawn0.step)⟩
 case round =>
  clear H'
  try clear p2
  obtain ⟨x1_1, x6_1, rfl, rfl, HA, HK1, ⟨m1, rfl⟩⟩ := hrel
  cases gk with
  | zero => exact absurd HA.out (by simp [papermillref13_place.l0])
  | succ k1 =>
   have H := HA.out
   clear HA
   simp only [papermillref13_place.l0] at H
   have HC3 := Aside0.mk H
   clear H
   go_upto_region 2 with (fail)
   go_cut [14] (fun v14 wc => ∃ (kq : Nat) (x14_2 : Bool), v14 = .bool x14_2 ∧ Aside0 (papermillref13_place.j1 kq l0 x1_1 x6_1 x14_2 = some (r1, r2)) ∧ Aside0 (kq ≤ k1) ∧ Drawn0 w wc)
   case first =>
    have H := HC3.out
    clear HC3
    by_cases c4 : x6_1 < (l0.length : Int)
    ·rw [if_pos c4] at H
     have c4b0 : decide (x6_1 < (l0.length : Int)) = true := decide_eq_true c4
     clear c4
     (first | rw [c4b0] | (simp only [i64_w, i32_w]; rw [c4b0]) | skip)
     have H' := Aside0.mk H
     clear H
     go_wp2
     go_meet
     case rel => exact ⟨_, (decide (x1_1 ≥ 0)), (by first | rfl | (simp; done) | (simp [*]; done)), H', ⟨by have := HK1.out; first | omega | exact Nat.le_refl _⟩, by repeat (first | exact Drawn0.refl _ | apply Drawn0.step)⟩
    ·rw [if_neg c4] at H
     have c4b0 : decide (x6_1 < (l0.length : Int)) = false := decide_eq_false c4
     clear c4
     (first | rw [c4b0] | (simp only [i64_w, i32_w]; rw [c4b0]) | skip)
     have H' := Aside0.mk H
     clear H
     go_wp2
     go_meet
     case rel => exact ⟨_, (false), (by first | rfl | (simp; done) | (simp [*]; done)), H', ⟨by have := HK1.out; first | omega | exact Nat.le_refl _⟩, by repeat (first | exact Drawn0.refl _ | apply Drawn0.step)⟩
   case rest =>
    clear HC3
    try clear p2
    try clear c4
    try clear c4b0
    try clear p2
    obtain ⟨kq, x14_2, rfl, HA, HJ2, ⟨mc2, rfl⟩⟩ := hcut
    cases kq with
    | zero => exact absurd HA.out (by simp [papermillref13_place.j1])
    | succ kj2 =>
     have H := HA.out
     clear HA
     simp only [papermillref13_place.j1] at H
     by_cases c5 : x14_2 = true
     ·subst c5
      have H1 : (if 0 ≤ x6_1 then (if x6_1 < (l0.length : Int) then (if x1_1 < ((rd_T44 l0 x6_1).f1) then (some (x6_1, x1_1)) else (papermillref13_place.l0 kj2 l0 (wrap64 (x1_1 - ((rd_T44 l0 x6_1).f1))) (wrap64 (x6_1 + 1)))) else (none)) else (none)) = some (r1, r2) := by rw [if_pos rfl] at H; exact H
      clear H
      have H := H1
      clear H1
      by_cases c6 : 0 ≤ x6_1
      ·rw [if_pos c6] at H
       have c6b0 : decide (0 ≤ x6_1) = true := decide_eq_true c6
       clear c6
       by_cases c7 : x6_1 < (l0.length : Int)
       ·rw [if_pos c7] at H
        have c7b0 : decide (x6_1 < (l0.length : Int)) = true := decide_eq_true c7
        clear c7
        by_cases c8 : x1_1 < ((rd_T44 l0 x6_1).f1)
        ·rw [if_pos c8] at H
         have c8b0 : decide (x1_1 < ((rd_T44 l0 x6_1).f1)) = true := decide_eq_true c8
         clear c8
         simp only [Option.some.injEq, Prod.mk.injEq] at H
         obtain ⟨rfl, rfl⟩ := H
         have p48001 : 0 ≤ (x6_1 : Int) := of_decide_eq_true (by assumption)
         have q48001 : x6_1 < (l0.length : Int) := of_decide_eq_true (by assumption)
         obtain ⟨ad48001, e48001, hx48001_0, hx48001_1, hx48001_2⟩ := at_T44 HR0.out x6_1 p48001 q48001
         cases e48001
         replace p48001 := eq_true p48001
         replace q48001 := eq_true q48001
         go_wp2
         go_ret2
         exact ⟨by first | rfl | (simp; done) | (simp [*]; done), by repeat (first | exact Drawn0.refl _ | apply Drawn0.step)⟩
        ·rw [if_neg c8] at H
         have c8b0 : decide (x1_1 < ((rd_T44 l0 x6_1).f1)) = false := decide_eq_false c8
         clear c8
         have H' := Aside0.mk H
         clear H
         have p48001 : 0 ≤ (x6_1 : Int) := of_decide_eq_true (by assumption)
         have q48001 : x6_1 < (l0.length : Int) := of_decide_eq_true (by assumption)
         obtain ⟨ad48001, e48001, hx48001_0, hx48001_1, hx48001_2⟩ := at_T44 HR0.out x6_1 p48001 q48001
         cases e48001
         replace p48001 := eq_true p48001
         replace q48001 := eq_true q48001
         have p48002 : 0 ≤ (x6_1 : Int) := of_decide_eq_true (by assumption)
         have q48002 : x6_1 < (l0.length : Int) := of_decide_eq_true (by assumption)
         obtain ⟨ad48002, e48002, hx48002_0, hx48002_1, hx48002_2⟩ := at_T44 HR0.out x6_1 p48002 q48002
         obtain rfl : ad48001 = ad48002 := (by injection e48002)
         replace p48002 := eq_true p48002
         replace q48002 := eq_true q48002
         go_wp2
         go_roundg kj2
         case measure => have := HK1.out; have := HJ2.out; omega
         case rel => exact ⟨(wrap64 (x1_1 - ((rd_T44 l0 x6_1).f1))), (wrap64 (x6_1 + 1)), (by first | rfl | (simp; done) | (simp [*]; done)), (by first | rfl | (simp; done) | (simp [*]; done)), H', ⟨by have := HK1.out; have := HJ2.out; omega⟩, by repeat (first | exact Drawn0.refl _ | apply Drawn0.step)⟩
       ·rw [if_neg c7] at H
        exact absurd H (by simp)
      ·rw [if_neg c6] at H
       exact absurd H (by simp)
     ·replace c5 := Bool.eq_false_iff.mpr c5
      subst c5
      have H1 : (some ((-1), 0)) = some (r1, r2) := by rw [if_neg (show ¬ (false = true) by decide)] at H; first | exact H | simpa using H
      clear H
      have H := H1
      clear H1
      simp only [Option.some.injEq, Prod.mk.injEq] at H
      obtain ⟨rfl, rfl⟩ := H
      go_wp2
      go_ret2
      exact ⟨by first | rfl | (simp; done) | (simp [*]; done), by repeat (first | exact Drawn0.refl _ | apply Drawn0.step)⟩

end Go.Proofs.Ytalpegglbfobiaa.G

namespace Go.Proofs.Ytalpegglbfobiaa.G
open Go.RowKit Go.Proofs.YtalpegglbfobiaaW.PrintWords Go.Proofs.YtalpegglbfobiaaW.PrintLast Go.Proofs.YtalpegglbfobiaaW.PrintMore
attribute [local go_sem] max2_int min2_int max_two min_two max_three min_three max_four min_four   -- for this text's walks alone
set_option linter.unusedVariables false
set_option linter.unusedSimpArgs false

def papermillref13_At.f (k : Nat) (l0 : List (S44)) (a1 : Int) : Option (Int × Int) := (papermillref13_Check.f k l0).bind fun t27001 => (if t27001 = 0 then ((papermillref13_place.f k l0 a1).bind fun bt27002 => (if bt27002.1 < 0 then (some (0, 1)) else (if 0 ≤ bt27002.1 then (if bt27002.1 < (l0.length : Int) then ((papermillref13_image.f ((rd_T44 l0 bt27002.1).f0) ((rd_T44 l0 bt27002.1).f1) ((rd_T44 l0 bt27002.1).f2) bt27002.2).bind fun t27005 => (some (t27005, 0))) else (none)) else (none)))) else (some (0, t27001)))
set_option maxHeartbeats 8000000 in
set_option maxRecDepth 100000 in
theorem papermillref13_At.calls (k : Nat) (A0 : Option Addr) (c0 : Nat) (l0 : List (S44)) (a1 : Int) (r1 : Int) (r2 : Int) (w : World) (hr0 : Kd.C k44 w A0 l0.length l0) (hc0 : l0.length ≤ c0) (h : papermillref13_At.f k l0 a1 = some (r1, r2)) :
  Calls Try.prog 26 #[.slice A0 l0.length c0, .int .i64 a1] w fun e w' => e = .returned (.tuple #[.int .i64 r1, .int .i64 r2]) ∧ Below w.heap.size w w' := by
 have hu44 := Try.underlying44
 have HR0 := Aside0.mk hr0
 have HC0 := Aside0.mk hc0
 clear hr0 hc0
 have HB := Aside0.mk (Below.refl w.heap.size w)
 have H : ((papermillref13_Check.f k l0).bind fun t27001 => (if t27001 = 0 then ((papermillref13_place.f k l0 a1).bind fun bt27002 => (if bt27002.1 < 0 then (some (0, 1)) else (if 0 ≤ bt27002.1 then (if bt27002.1 < (l0.length : Int) then ((papermillref13_image.f ((rd_T44 l0 bt27002.1).f0) ((rd_T44 l0 bt27002.1).f1) ((rd_T44 l0 bt27002.1).f2) bt27002.2).bind fun t27005 => (some (t27005, 0))) else (none)) else (none)))) else (some (0, t27001)))) = some (r1, r2) := h
 clear h
 replace H := Option.bind_eq_some_iff.mp H
 obtain ⟨t27001, A30, H⟩ := H
 replace H : (if t27001 = 0 then ((papermillref13_place.f k l0 a1).bind fun bt27002 => (if bt27002.1 < 0 then (some (0, 1)) else (if 0 ≤ bt27002.1 then (if bt27002.1 < (l0.length : Int) then ((papermillref13_image.f ((rd_T44 l0 bt27002.1).f0) ((rd_T44 l0 bt27002.1).f1) ((rd_T44 l0 bt27002.1).f2) bt27002.2).bind fun t27005 => (some (t27005, 0))) else (none)) else (none)))) else (some (0, t27001))) = some (r1, r2) := H
 have A3 := Aside0.mk A30
 clear A30
 by_cases c4 : t27001 = 0
 ·rw [if_pos c4] at H
  have c4b0 : (t27001 == 0) = true := beq_iff_eq.mpr c4
  have c4b1 : (t27001 != 0) = false := bne_eq_false_iff_eq.mpr c4
  clear c4
  replace H := Option.bind_eq_some_iff.mp H
  obtain ⟨⟨t27002, t27003⟩, A50, H⟩ := H
  replace H : (if t27002 < 0 then (some (0, 1)) else (if 0 ≤ t27002 then (if t27002 < (l0.length : Int) then ((papermillref13_image.f ((rd_T44 l0 t27002).f0) ((rd_T44 l0 t27002).f1) ((rd_T44 l0 t27002).f2) t27003).bind fun t27005 => (some (t27005, 0))) else (none)) else (none))) = some (r1, r2) := H
  have A5 := Aside0.mk A50
  clear A50
  by_cases c6 : t27002 < 0
  ·rw [if_pos c6] at H
   have c6b0 : decide (t27002 < 0) = true := decide_eq_true c6
   clear c6
   simp only [Option.some.injEq, Prod.mk.injEq] at H
   obtain ⟨rfl, rfl⟩ := H
   go_enter Try.func26, Try.ntmps26
   go_wp2_with (first | ((with_reducible refine gate_callee (f := 25) rfl ?_); refine goesL_ (some 10) rfl rfl Try.func25 (by kernel_rfl) rfl #[.slice A0 l0.length c0] rfl (by (try simp only [List.map_toArray, List.map_cons, List.map_nil]); first | done | rfl | (simp only [List.length_drop, List.length_take]; rfl)) ?_; (with_reducible refine (papermillref13_Check.calls k _ _ l0 t27001 _ ?side1 ?side2 A3.out).mono ?_); (case side1 => exact HR0.out); (case side2 => exact HC0.out); rintro e w7 ⟨rfl, hb⟩; refine ⟨_, rfl, ?_⟩; have n0_ := Aside0.mk (below_step (by repeat (first | exact HB.out | apply below_alloc | apply pw_below_drewN | apply below_drew1)) hb); clear HB; have HB := n0_; clear n0_; (try clear hb); (try clear hb2); (try clear hk); (try clear hi)) | ((with_reducible refine gate_callee (f := 47) rfl ?_); refine goesL_ (some 17) rfl rfl Try.func47 (by kernel_rfl) rfl #[.slice A0 l0.length c0, .int .i64 a1] rfl (by (try simp only [List.map_toArray, List.map_cons, List.map_nil]); first | done | rfl | (simp only [List.length_drop, List.length_take]; rfl)) ?_; (with_reducible refine (papermillref13_place.calls k _ _ l0 a1 t27002 t27003 _ ?side1 ?side2 A5.out).mono ?_); (case side1 => exact (Kd.C_below HR0.out HB.out)); (case side2 => exact HC0.out); rintro e w' ⟨rfl, ⟨nd, rfl⟩⟩; refine ⟨_, rfl, ?_⟩))
   go_ret2
   exact ⟨by first | rfl | (simp [errW_none, errW_some] <;> rfl) | (simp [*, errW_none, errW_some] <;> rfl), by repeat (first | exact HB.out | apply below_alloc | apply pw_below_drewN | apply below_drew1)⟩
  ·rw [if_neg c6] at H
   have c6b0 : decide (t27002 < 0) = false := decide_eq_false c6
   clear c6
   by_cases c8 : 0 ≤ t27002
   ·rw [if_pos c8] at H
    have c8b0 : decide (0 ≤ t27002) = true := decide_eq_true c8
    clear c8
    by_cases c9 : t27002 < (l0.length : Int)
    ·rw [if_pos c9] at H
     have c9b0 : decide (t27002 < (l0.length : Int)) = true := decide_eq_true c9
     clear c9
     replace H := Option.bind_eq_some_iff.mp H
     obtain ⟨t27005, A100, H⟩ := H
     replace H : (some (t27005, 0)) = some (r1, r2) := H
     have A10 := Aside0.mk A100
     clear A100
     simp only [Option.some.injEq, Prod.mk.injEq] at H
     obtain ⟨rfl, rfl⟩ := H
     go_enter Try.func26, Try.ntmps26
     go_wp2_with (first | ((with_reducible refine gate_callee (f := 25) rfl ?_); refine goesL_ (some 10) rfl rfl Try.func25 (by kernel_rfl) rfl #[.slice A0 l0.length c0] rfl (by (try simp only [List.map_toArray, List.map_cons, List.map_nil]); first | done | rfl | (simp only [List.length_drop, List.length_take]; rfl)) ?_; (with_reducible refine (papermillref13_Check.calls k _ _ l0 t27001 _ ?side1 ?side2 A3.out).mono ?_); (case side1 => exact HR0.out); (case side2 => exact HC0.out); rintro e w11 ⟨rfl, hb⟩; refine ⟨_, rfl, ?_⟩; have n0_ := Aside0.mk (below_step (by repeat (first | exact HB.out | apply below_alloc | apply pw_below_drewN | apply below_drew1)) hb); clear HB; have HB := n0_; clear n0_; (try clear hb); (try clear hb2); (try clear hk); (try clear hi)) | ((with_reducible refine gate_callee (f := 47) rfl ?_); refine goesL_ (some 17) rfl rfl Try.func47 (by kernel_rfl) rfl #[.slice A0 l0.length c0, .int .i64 a1] rfl (by (try simp only [List.map_toArray, List.map_cons, List.map_nil]); first | done | rfl | (simp only [List.length_drop, List.length_take]; rfl)) ?_; (with_reducible refine (papermillref13_place.calls k _ _ l0 a1 t27002 t27003 _ ?side1 ?side2 A5.out).mono ?_); (case side1 => exact (Kd.C_below HR0.out HB.out)); (case side2 => exact HC0.out); rintro e w' ⟨rfl, ⟨nd, rfl⟩⟩; refine ⟨_, rfl, ?_⟩; have p27004 : 0 ≤ (t27002 : Int) := of_decide_eq_true (by assumption); have q27004 : t27002 < (l0.length : Int) := of_decide_eq_true (by assumption); obtain ⟨ad27004, e27004, hx27004_0, hx27004_1, hx27004_2⟩ := at_T44 HR0.out t27002 p27004 q27004; cases e27004; replace hx27004_0 := (HB.out.cell (World.block_lt_of_cell? w _ hx27004_0)).trans hx27004_0; replace hx27004_1 := (HB.out.cell (World.block_lt_of_cell? w _ hx27004_1)).trans hx27004_1; replace hx27004_2 := (HB.out.cell (World.block_lt_of_cell? w _ hx27004_2)).trans hx27004_2; replace p27004 := eq_true p27004; replace q27004 := eq_true q27004) | ((with_reducible refine gate_callee (f := 48) rfl ?_); refine goesL_ (some 27) rfl rfl Try.func48 (by kernel_rfl) rfl #[.agg #[.int .i64 ((rd_T44 l0 t27002).f0), .int .i64 ((rd_T44 l0 t27002).f1), .bool ((rd_T44 l0 t27002).f2)], .int .i64 t27003] rfl (by (try simp only [List.map_toArray, List.map_cons, List.map_nil]); first | done | rfl | (simp only [List.length_drop, List.length_take]; rfl)) ?_; (with_reducible refine (papermillref13_image.calls ((rd_T44 l0 t27002).f0) ((rd_T44 l0 t27002).f1) ((rd_T44 l0 t27002).f2) t27003 t27005 _ A10.out).mono ?_); rintro e w12 ⟨rfl, hb⟩; refine ⟨_, rfl, ?_⟩; have n0_ := Aside0.mk (below_step (by repeat (first | exact HB.out | apply below_alloc | apply pw_below_drewN | apply below_drew1)) hb); clear HB; have HB := n0_; clear n0_; (try clear hb); (try clear hb2); (try clear hk); (try clear hi)))
     go_ret2
     exact ⟨by first | rfl | (simp [errW_none, errW_some] <;> rfl) | (simp [*, errW_none, errW_some] <;> rfl), by repeat (first | exact HB.out | apply below_alloc | apply pw_below_drewN | apply below_drew1)⟩
    ·rw [if_neg c9] at H
     exact absurd H (by simp)
   ·rw [if_neg c8] at H
    exact absurd H (by simp)
 ·rw [if_neg c4] at H
  have c4b0 : (t27001 == 0) = false := beq_eq_false_iff_ne.mpr c4
  have c4b1 : (t27001 != 0) = true := bne_iff_ne.mpr c4
  simp only [Option.some.injEq, Prod.mk.injEq] at H
  obtain ⟨rfl, rfl⟩ := H
  go_enter Try.func26, Try.ntmps26
  go_wp2_with (first | ((with_reducible refine gate_callee (f := 25) rfl ?_); refine goesL_ (some 10) rfl rfl Try.func25 (by kernel_rfl) rfl #[.slice A0 l0.length c0] rfl (by (try simp only [List.map_toArray, List.map_cons, List.map_nil]); first | done | rfl | (simp only [List.length_drop, List.length_take]; rfl)) ?_; (with_reducible refine (papermillref13_Check.calls k _ _ l0 t27001 _ ?side1 ?side2 A3.out).mono ?_); (case side1 => exact HR0.out); (case side2 => exact HC0.out); rintro e w13 ⟨rfl, hb⟩; refine ⟨_, rfl, ?_⟩; have n0_ := Aside0.mk (below_step (by repeat (first | exact HB.out | apply below_alloc | apply pw_below_drewN | apply below_drew1)) hb); clear HB; have HB := n0_; clear n0_; (try clear hb); (try clear hb2); (try clear hk); (try clear hi)))
  go_ret2
  exact ⟨by first | rfl | (simp [errW_none, errW_some] <;> rfl) | (simp [*, errW_none, errW_some] <;> rfl), by repeat (first | exact HB.out | apply below_alloc | apply pw_below_drewN | apply below_drew1)⟩

end Go.Proofs.Ytalpegglbfobiaa.G

namespace Go.Proofs.Ytalpegglbfobiaa.G
open Go.RowKit Go.Proofs.YtalpegglbfobiaaW.PrintWords Go.Proofs.YtalpegglbfobiaaW.PrintLast Go.Proofs.YtalpegglbfobiaaW.PrintMore
attribute [local go_sem] max2_int min2_int max_two min_two max_three min_three max_four min_four   -- for this text's walks alone
set_option linter.unusedVariables false
set_option linter.unusedSimpArgs false

def papermillref13_Length.f (k : Nat) (l0 : List (S44)) : Option (Int × Int) := (papermillref13_Check.f k l0).bind fun t28001 => (if t28001 = 0 then ((papermillref13_length.f k l0).bind fun t28002 => (some (t28002, 0))) else (some (0, t28001)))
set_option maxHeartbeats 8000000 in
set_option maxRecDepth 100000 in
theorem papermillref13_Length.calls (k : Nat) (A0 : Option Addr) (c0 : Nat) (l0 : List (S44)) (r1 : Int) (r2 : Int) (w : World) (hr0 : Kd.C k44 w A0 l0.length l0) (hc0 : l0.length ≤ c0) (h : papermillref13_Length.f k l0 = some (r1, r2)) :
  Calls Try.prog 27 #[.slice A0 l0.length c0] w fun e w' => e = .returned (.tuple #[.int .i64 r1, .int .i64 r2]) ∧ Below w.heap.size w w' := by
 have HR0 := Aside0.mk hr0
 have HC0 := Aside0.mk hc0
 clear hr0 hc0
 have HB := Aside0.mk (Below.refl w.heap.size w)
 have H : ((papermillref13_Check.f k l0).bind fun t28001 => (if t28001 = 0 then ((papermillref13_length.f k l0).bind fun t28002 => (some (t28002, 0))) else (some (0, t28001)))) = some (r1, r2) := h
 clear h
 replace H := Option.bind_eq_some_iff.mp H
 obtain ⟨t28001, A20, H⟩ := H
 replace H : (if t28001 = 0 then ((papermillref13_length.f k l0).bind fun t28002 => (some (t28002, 0))) else (some (0, t28001))) = some (r1, r2) := H
 have A2 := Aside0.mk A20
 clear A20
 by_cases c3 : t28001 = 0
 ·rw [if_pos c3] at H
  have c3b0 : (t28001 == 0) = true := beq_iff_eq.mpr c3
  have c3b1 : (t28001 != 0) = false := bne_eq_false_iff_eq.mpr c3
  clear c3
  replace H := Option.bind_eq_some_iff.mp H
  obtain ⟨t28002, A40, H⟩ := H
  replace H : (some (t28002, 0)) = some (r1, r2) := H
  have A4 := Aside0.mk A40
  clear A40
  simp only [Option.some.injEq, Prod.mk.injEq] at H
  obtain ⟨rfl, rfl⟩ := H
  go_enter Try.func27, Try.ntmps27
  go_wp2_with (first | ((with_reducible refine gate_callee (f := 25) rfl ?_); refine goesL_ (some 6) rfl rfl Try.func25 (by kernel_rfl) rfl #[.slice A0 l0.length c0] rfl (by (try simp only [List.map_toArray, List.map_cons, List.map_nil]); first | done | rfl | (simp only [List.length_drop, List.length_take]; rfl)) ?_; (with_reducible refine (papermillref13_Check.calls k _ _ l0 t28001 _ ?side1 ?side2 A2.out).mono ?_); (case side1 => exact HR0.out); (case side2 => exact HC0.out); rintro e w5 ⟨rfl, hb⟩; refine ⟨_, rfl, ?_⟩; have n0_ := Aside0.mk (below_step (by repeat (first | exact HB.out | apply below_alloc | apply pw_below_drewN | apply below_drew1)) hb); clear HB; have HB := n0_; clear n0_; (try clear hb); (try clear hb2); (try clear hk); (try clear hi)) | ((with_reducible refine gate_callee (f := 46) rfl ?_); refine goesL_ (some 11) rfl rfl Try.func46 (by kernel_rfl) rfl #[.slice A0 l0.length c0] rfl (by (try simp only [List.map_toArray, List.map_cons, List.map_nil]); first | done | rfl | (simp only [List.length_drop, List.length_take]; rfl)) ?_; (with_reducible refine (papermillref13_length.calls k _ _ l0 t28002 _ ?side1 ?side2 A4.out).mono ?_); (case side1 => exact (Kd.C_below HR0.out HB.out)); (case side2 => exact HC0.out); rintro e w' ⟨rfl, ⟨nd, rfl⟩⟩; refine ⟨_, rfl, ?_⟩))
  go_ret2
  exact ⟨by first | rfl | (simp [errW_none, errW_some] <;> rfl) | (simp [*, errW_none, errW_some] <;> rfl), by repeat (first | exact HB.out | apply below_alloc | apply pw_below_drewN | apply below_drew1)⟩
 ·rw [if_neg c3] at H
  have c3b0 : (t28001 == 0) = false := beq_eq_false_iff_ne.mpr c3
  have c3b1 : (t28001 != 0) = true := bne_iff_ne.mpr c3
  simp only [Option.some.injEq, Prod.mk.injEq] at H
  obtain ⟨rfl, rfl⟩ := H
  go_enter Try.func27, Try.ntmps27
  go_wp2_with (first | ((with_reducible refine gate_callee (f := 25) rfl ?_); refine goesL_ (some 6) rfl rfl Try.func25 (by kernel_rfl) rfl #[.slice A0 l0.length c0] rfl (by (try simp only [List.map_toArray, List.map_cons, List.map_nil]); first | done | rfl | (simp only [List.length_drop, List.length_take]; rfl)) ?_; (with_reducible refine (papermillref13_Check.calls k _ _ l0 t28001 _ ?side1 ?side2 A2.out).mono ?_); (case side1 => exact HR0.out); (case side2 => exact HC0.out); rintro e w6 ⟨rfl, hb⟩; refine ⟨_, rfl, ?_⟩; have n0_ := Aside0.mk (below_step (by repeat (first | exact HB.out | apply below_alloc | apply pw_below_drewN | apply below_drew1)) hb); clear HB; have HB := n0_; clear n0_; (try clear hb); (try clear hb2); (try clear hk); (try clear hi)))
  go_ret2
  exact ⟨by first | rfl | (simp [errW_none, errW_some] <;> rfl) | (simp [*, errW_none, errW_some] <;> rfl), by repeat (first | exact HB.out | apply below_alloc | apply pw_below_drewN | apply below_drew1)⟩

end Go.Proofs.Ytalpegglbfobiaa.G

namespace Go.Proofs.Ytalpegglbfobiaa.G
open Go.RowKit Go.Proofs.YtalpegglbfobiaaW.PrintWords Go.Proofs.YtalpegglbfobiaaW.PrintLast Go.Proofs.YtalpegglbfobiaaW.PrintMore
attribute [local go_sem] max2_int min2_int max_two min_two max_three min_three max_four min_four   -- for this text's walks alone
set_option linter.unusedVariables false
set_option linter.unusedSimpArgs false

def papermillref04_Check.l0 : Nat → List (S55) → Int → Option (Int)
 | 0, _, _ => none
 | k + 1, x0, x3 => if x3 < (x0.length : Int) then (if 0 ≤ x3 then (if ((rd_T55 x0 x3).f0) < 0 then (some 1) else (if ((rd_T55 x0 x3).f0) > ((rd_T55 x0 x3).f1) then (some 1) else (if ((rd_T55 x0 x3).f1) > 17179869184 then (some 1) else (papermillref04_Check.l0 k x0 (wrap64 (x3 + 1)))))) else (none)) else (some 0)
def papermillref04_Check.f (k : Nat) (l0 : List (S55)) : Option (Int) := if (l0.length : Int) > 256 then (some 8) else (papermillref04_Check.l0 k l0 0)
set_option maxHeartbeats 8000000 in
set_option maxRecDepth 100000 in
theorem papermillref04_Check.calls (k : Nat) (A0 : Option Addr) (c0 : Nat) (l0 : List (S55)) (r : Int) (w : World) (hr0 : Kd.C k55 w A0 l0.length l0) (hc0 : l0.length ≤ c0) (h : papermillref04_Check.f k l0 = some r) :
  Calls Try.prog 78 #[.slice A0 l0.length c0] w fun e w' => e = .returned (.int .i64 r) ∧ Drawn0 w w' := by
 have HR0 := Aside0.mk hr0
 have HC0 := Aside0.mk hc0
 clear hr0 hc0
 have H : (if (l0.length : Int) > 256 then (some 8) else (papermillref04_Check.l0 k l0 0)) = some r := h
 clear h
 by_cases c2 : (l0.length : Int) > 256
 ·rw [if_pos c2] at H
  have c2b0 : decide (256 < (l0.length : Int)) = true := decide_eq_true c2
  have c2b1 : decide (256 < l0.length) = true := decide_eq_true (by omega)
  clear c2
  obtain rfl := Option.some.inj H
  go_enter Try.func78, Try.ntmps78
  go_wp2
  repeat (go_quiet (fail); try go_wp2)
  go_ret
  exact ⟨by first | rfl | (simp; done) | (simp [*]; done), by repeat (first | exact Drawn0.refl _ | apply Drawn0.step)⟩
 ·rw [if_neg c2] at H
  have c2b0 : decide (256 < (l0.length : Int)) = false := decide_eq_false c2
  have c2b1 : decide (256 < l0.length) = false := decide_eq_false (by omega)
  clear c2
  have H' := Aside0.mk H
  clear H
  go_enter Try.func78, Try.ntmps78
  go_wp2
  repeat (go_quiet (fail); try go_wp2)
  go_loopg [3] k (fun kq v3 w' => ∃ (x3_1 : Int), v3 = .int .i64 x3_1 ∧ Aside0 (papermillref04_Check.l0 kq l0 x3_1 = some r) ∧ Aside0 (kq ≤ k) ∧ Drawn0 w w')
  case atStart => exact ⟨(0), (by first | rfl | (simp; done) | (simp [*]; done)), H', ⟨Nat.le_refl _⟩, by repeat (first | exact Drawn0.refl _ | apply Drawn0.step)⟩
  case round =>
   clear H'
   try clear c2
   try clear c2b0
   try clear c2b1
   try clear p2
   obtain ⟨x3_1, rfl, HA, HK1, ⟨m1, rfl⟩⟩ := hrel
   cases gk with
   | zero => exact absurd HA.out (by simp [papermillref04_Check.l0])
   | succ k1 =>
    have H := HA.out
    clear HA
    simp only [papermillref04_Check.l0] at H
    by_cases c3 : x3_1 < (l0.length : Int)
    ·rw [if_pos c3] at H
     have c3b0 : decide (x3_1 < (l0.length : Int)) = true := decide_eq_true c3
     clear c3
     by_cases c4 : 0 ≤ x3_1
     ·rw [if_pos c4] at H
      have c4b0 : decide (0 ≤ x3_1) = true := decide_eq_true c4
      clear c4
      by_cases c5 : ((rd_T55 l0 x3_1).f0) < 0
      ·rw [if_pos c5] at H
       have c5b0 : decide (((rd_T55 l0 x3_1).f0) < 0) = true := decide_eq_true c5
       clear c5
       obtain rfl := Option.some.inj H
       have p79001 : 0 ≤ (x3_1 : Int) := of_decide_eq_true (by assumption)
       have q79001 : x3_1 < (l0.length : Int) := of_decide_eq_true (by assumption)
       obtain ⟨ad79001, e79001, hx79001_0, hx79001_1⟩ := at_T55 HR0.out x3_1 p79001 q79001
       cases e79001
       replace p79001 := eq_true p79001
       replace q79001 := eq_true q79001
       go_wp2
       repeat (go_quiet (fail); try go_wp2)
       go_ret
       exact ⟨by first | rfl | (simp; done) | (simp [*]; done), by repeat (first | exact Drawn0.refl _ | apply Drawn0.step)⟩
      ·rw [if_neg c5] at H
       have c5b0 : decide (((rd_T55 l0 x3_1).f0) < 0) = false := decide_eq_false c5
       clear c5
       by_cases c6 : ((rd_T55 l0 x3_1).f0) > ((rd_T55 l0 x3_1).f1)
       ·rw [if_pos c6] at H
        have c6b0 : decide (((rd_T55 l0 x3_1).f1) < ((rd_T55 l0 x3_1).f0)) = true := decide_eq_true c6
        clear c6
        obtain rfl := Option.some.inj H
        have p79001 : 0 ≤ (x3_1 : Int) := of_decide_eq_true (by assumption)
        have q79001 : x3_1 < (l0.length : Int) := of_decide_eq_true (by assumption)
        obtain ⟨ad79001, e79001, hx79001_0, hx79001_1⟩ := at_T55 HR0.out x3_1 p79001 q79001
        cases e79001
        replace p79001 := eq_true p79001
        replace q79001 := eq_true q79001
        have p79002 : 0 ≤ (x3_1 : Int) := of_decide_eq_true (by assumption)
        have q79002 : x3_1 < (l0.length : Int) := of_decide_eq_true (by assumption)
        obtain ⟨ad79002, e79002, hx79002_0, hx79002_1⟩ := at_T55 HR0.out x3_1 p79002 q79002
        obtain rfl : ad79001 = ad79002 := (by injection e79002)
        replace p79002 := eq_true p79002
        replace q79002 := eq_true q79002
        have p79003 : 0 ≤ (x3_1 : Int) := of_decide_eq_true (by assumption)
        have q79003 : x3_1 < (l0.length : Int) := of_decide_eq_true (by assumption)
        obtain ⟨ad79003, e79003, hx79003_0, hx79003_1⟩ := at_T55 HR0.out x3_1 p79003 q79003
        obtain rfl : ad79001 = ad79003 := (by injection e79003)
        replace p79003 := eq_true p79003
        replace q79003 := eq_true q79003
        go_wp2
        repeat (go_quiet (fail); try go_wp2)
        go_ret
        exact ⟨by first | rfl | (simp; done) | (simp [*]; done), by repeat (first | exact Drawn0.refl _ | apply Drawn0.step)⟩
       ·rw [if_neg c6] at H
        have c6b0 : decide (((rd_T55 l0 x3_1).f1) < ((rd_T55 l0 x3_1).f0)) = false := decide_eq_false c6
        clear c6
        by_cases c7 : ((rd_T55 l0 x3_1).f1) > 17179869184
        ·rw [if_pos c7] at H
         have c7b0 : decide (17179869184 < ((rd_T55 l0 x3_1).f1)) = true := decide_eq_true c7
         clear c7
         obtain rfl := Option.some.inj H
         have p79001 : 0 ≤ (x3_1 : Int) := of_decide_eq_true (by assumption)
         have q79001 : x3_1 < (l0.length : Int) := of_decide_eq_true (by assumption)
         obtain ⟨ad79001, e79001, hx79001_0, hx79001_1⟩ := at_T55 HR0.out x3_1 p79001 q79001
         cases e79001
         replace p79001 := eq_true p79001
         replace q79001 := eq_true q79001
         have p79002 : 0 ≤ (x3_1 : Int) := of_decide_eq_true (by assumption)
         have q79002 : x3_1 < (l0.length : Int) := of_decide_eq_true (by assumption)
         obtain ⟨ad79002, e79002, hx79002_0, hx79002_1⟩ := at_T55 HR0.out x3_1 p79002 q79002
         obtain rfl : ad79001 = ad79002 := (by injection e79002)
         replace p79002 := eq_true p79002
         replace q79002 := eq_true q79002
         have p79003 : 0 ≤ (x3_1 : Int) := of_decide_eq_true (by assumption)
         have q79003 : x3_1 < (l0.length : Int) := of_decide_eq_true (by assumption)
         obtain ⟨ad79003, e79003, hx79003_0, hx79003_1⟩ := at_T55 HR0.out x3_1 p79003 q79003
         obtain rfl : ad79001 = ad79003 := (by injection e79003)
         replace p79003 := eq_true p79003
         replace q79003 := eq_true q79003
         have p79004 : 0 ≤ (x3_1 : Int) := of_decide_eq_true (by assumption)
         have q79004 : x3_1 < (l0.length : Int) := of_decide_eq_true (by assumption)
         obtain ⟨ad79004, e79004, hx79004_0, hx79004_1⟩ := at_T55 HR0.out x3_1 p79004 q79004
         obtain rfl : ad79001 = ad79004 := (by injection e79004)
         replace p79004 := eq_true p79004
         replace q79004 := eq_true q79004
         go_wp2
         repeat (go_quiet (fail); try go_wp2)
         go_ret
         exact ⟨by first | rfl | (simp; done) | (simp [*]; done), by repeat (first | exact Drawn0.refl _ | apply Drawn0.step)⟩
        ·rw [if_neg c7] at H
         have c7b0 : decide (17179869184 < ((rd_T55 l0 x3_1).f1)) = false := decide_eq_false c7
         clear c7
         have H' := Aside0.mk H
         clear H
         have p79001 : 0 ≤ (x3_1 : Int) := of_decide_eq_true (by assumption)
         have q79001 : x3_1 < (l0.length : Int) := of_decide_eq_true (by assumption)
         obtain ⟨ad79001, e79001, hx79001_0, hx79001_1⟩ := at_T55 HR0.out x3_1 p79001 q79001
         cases e79001
         replace p79001 := eq_true p79001
         replace q79001 := eq_true q79001
         have p79002 : 0 ≤ (x3_1 : Int) := of_decide_eq_true (by assumption)
         have q79002 : x3_1 < (l0.length : Int) := of_decide_eq_true (by assumption)
         obtain ⟨ad79002, e79002, hx79002_0, hx79002_1⟩ := at_T55 HR0.out x3_1 p79002 q79002
         obtain rfl : ad79001 = ad79002 := (by injection e79002)
         replace p79002 := eq_true p79002
         replace q79002 := eq_true q79002
         have p79003 : 0 ≤ (x3_1 : Int) := of_decide_eq_true (by assumption)
         have q79003 : x3_1 < (l0.length : Int) := of_decide_eq_true (by assumption)
         obtain ⟨ad79003, e79003, hx79003_0, hx79003_1⟩ := at_T55 HR0.out x3_1 p79003 q79003
         obtain rfl : ad79001 = ad79003 := (by injection e79003)
         replace p79003 := eq_true p79003
         replace q79003 := eq_true q79003
         have p79004 : 0 ≤ (x3_1 : Int) := of_decide_eq_true (by assumption)
         have q79004 : x3_1 < (l0.length : Int) := of_decide_eq_true (by assumption)
         obtain ⟨ad79004, e79004, hx79004_0, hx79004_1⟩ := at_T55 HR0.out x3_1 p79004 q79004
         obtain rfl : ad79001 = ad79004 := (by injection e79004)
         replace p79004 := eq_true p79004
         replace q79004 := eq_true q79004
         go_wp2
         repeat (go_quiet (fail); try go_wp2)
         go_roundg k1
         case measure => have := HK1.out; omega
         case rel => exact ⟨(wrap64 (x3_1 + 1)), (by first | rfl | (simp; done) | (simp [*]; done)), H', ⟨by have := HK1.out; omega⟩, by repeat (first | exact Drawn0.refl _ | apply Drawn0.step)⟩
     ·rw [if_neg c4] at H
      exact absurd H (by simp)
    ·rw [if_neg c3] at H
     have c3b0 : decide (x3_1 < (l0.length : Int)) = false := decide_eq_false c3
     clear c3
     obtain rfl := Option.some.inj H
     go_wp2
     repeat (go_quiet (fail); try go_wp2)
     go_ret
     exact ⟨by first | rfl | (simp; done) | (simp [*]; done), by repeat (first | exact Drawn0.refl _ | apply Drawn0.step)⟩

end Go.Proofs.Ytalpegglbfobiaa.G

namespace Go.Proofs.Ytalpegglbfobiaa.G
open Go.RowKit Go.Proofs.YtalpegglbfobiaaW.PrintWords Go.Proofs.YtalpegglbfobiaaW.PrintLast Go.Proofs.YtalpegglbfobiaaW.PrintMore
attribute [local go_sem] max2_int min2_int max_two min_two max_three min_three max_four min_four   -- for this text's walks alone
set_option linter.unusedVariables false
set_option linter.unusedSimpArgs false

def papermillref04_with.l0 : Nat → List Int → Int → Int → Option (List Int)
 | 0, _, _, _ => none
 | k + 1, x0, x1, x5 => if x5 < (x0.length : Int) then (if 0 ≤ x5 then (if (rd x0 x5) < x1 then (papermillref04_with.l0 k x0 x1 (wrap64 (x5 + 1))) else (if (rd x0 x5) = x1 then (some x0) else ((some (([] : List Int) : List Int)).bind fun y100003 => (if x5 ≤ (x0.length : Int) then ((some (x0.take (x5 : Int).toNat : List Int)).bind fun y100006 => (if y100003.length + y100006.length < 17592186044416 then ((some (y100003 ++ y100006 : List Int)).bind fun y100010 => (if y100010.length < 17592186044416 then ((some (y100010 ++ [x1] : List Int)).bind fun y100013 => ((some (x0.drop (x5 : Int).toNat : List Int)).bind fun y100016 => (if y100013.length + y100016.length < 17592186044416 then (some (y100013 ++ y100016)) else (none)))) else (none))) else (none))) else (none))))) else (none)) else ((some (([] : List Int) : List Int)).bind fun y100023 => (if 0 ≤ x5 then (if x5 ≤ (x0.length : Int) then ((some (x0.take (x5 : Int).toNat : List Int)).bind fun y100026 => (if y100023.length + y100026.length < 17592186044416 then ((some (y100023 ++ y100026 : List Int)).bind fun y100030 => (if y100030.length < 17592186044416 then ((some (y100030 ++ [x1] : List Int)).bind fun y100033 => ((some (x0.drop (x5 : Int).toNat : List Int)).bind fun y100036 => (if y100033.length + y100036.length < 17592186044416 then (some (y100033 ++ y100036)) else (none)))) else (none))) else (none))) else (none)) else (none)))
def papermillref04_with.f (k : Nat) (l0 : List Int) (a1 : Int) : Option (List Int) := papermillref04_with.l0 k l0 a1 0
set_option maxHeartbeats 8000000 in
set_option maxRecDepth 100000 in
theorem papermillref04_with.calls (k : Nat) (P0_ : Nat → Prop) (u9000_ : Value) (l0 : List Int) (a1 : Int) (r : List Int) (w0 w : World) (hB : Below w0.heap.size w0 w) (ho0 : Kd.R (Kd.int .i64) 3 w w0.heap.size P0_ u9000_ l0) (h : papermillref04_with.f k l0 a1 = some r) :
  Calls Try.prog 99 #[u9000_, .int .i64 a1] w fun e w' => ∃ v0_ : Value, e = .returned (v0_) ∧ Kd.R (Kd.int .i64) 3 w' w0.heap.size (fun k_ => (P0_ k_ ∨ w.heap.size ≤ k_)) v0_ r ∧ Below w0.heap.size w0 w' ∧ Kept w w' (fun k_ => P0_ k_) := by
 have HO0 := Aside0.mk (show Kd.R (Kd.int .i64) 3 w w0.heap.size (fun k_ => (P0_ k_ ∨ w.heap.size ≤ k_)) u9000_ l0 from Kd.R_mono ho0 (fun k_ hk => (.inl hk)))
 have HK := Aside0.mk (Kept.refl w (fun k_ => P0_ k_))
 have HW0 := Aside0.mk hB.size
 have HB := Aside0.mk hB
 clear hB
 have H : (papermillref04_with.l0 k l0 a1 0) = some r := h
 clear h
 have H' := Aside0.mk H
 clear H
 go_enter Try.func99, Try.ntmps99
 go_wp2
 go_loopg [5] k (fun kq v5 w' => ∃ (x5_1 : Int), v5 = .int .i64 x5_1 ∧ Aside0 (papermillref04_with.l0 kq l0 a1 x5_1 = some r) ∧ Aside0 (kq ≤ k) ∧ Aside0 (Kd.R (Kd.int .i64) 3 w' w0.heap.size (fun k_ => (P0_ k_ ∨ w.heap.size ≤ k_)) u9000_ l0) ∧ Aside0 (Kept w w' (fun k_ => P0_ k_)) ∧ Aside0 (Below w0.heap.size w0 w'))
 case atStart => exact ⟨(0), (by first | rfl | (simp; done) | (simp [*]; done)), H', ⟨Nat.le_refl _⟩, ⟨HO0.out⟩, ⟨by repeat (first | (with_reducible first | exact HK.out | apply Kept.alloc | apply Kept.drewN | apply Kept.drew) | exact HK.out)⟩, ⟨by repeat (first | exact HB.out | apply below_alloc | apply pw_below_drewN | apply below_drew1)⟩⟩
 case round =>
  clear H'
  try clear p2
  obtain ⟨x5_1, rfl, HA, HK1, HO_0, HK, HB⟩ := hrel
  cases gk with
  | zero => exact absurd HA.out (by simp [papermillref04_with.l0])
  | succ k1 =>
   have H := HA.out
   clear HA
   simp only [papermillref04_with.l0] at H
   by_cases c3 : x5_1 < (l0.length : Int)
   ·rw [if_pos c3] at H
    have c3b0 : decide (x5_1 < (l0.length : Int)) = true := decide_eq_true c3
    clear c3
    by_cases c4 : 0 ≤ x5_1
    ·rw [if_pos c4] at H
     have c4b0 : decide (0 ≤ x5_1) = true := decide_eq_true c4
     clear c4
     by_cases c5 : (rd l0 x5_1) < a1
     ·rw [if_pos c5] at H
      have c5b0 : decide ((rd l0 x5_1) < a1) = true := decide_eq_true c5
      clear c5
      have H' := Aside0.mk H
      clear H
      obtain ⟨Ao6, co6, eo6⟩ := Kd.R_slice HO_0.out
      subst eo6
      have p100001 : 0 ≤ (x5_1 : Int) := of_decide_eq_true (by assumption)
      have q100001 : x5_1 < (l0.length : Int) := of_decide_eq_true (by assumption)
      obtain ⟨ad100001, e100001, hx100001_0⟩ := Kd.at_int (Kd.R_reads' HO_0.out).2.2 x5_1 p100001 q100001
      cases e100001
      replace p100001 := eq_true p100001
      replace q100001 := eq_true q100001
      go_wp2
      go_roundg k1
      case measure => have := HK1.out; omega
      case rel => exact ⟨(wrap64 (x5_1 + 1)), (by first | rfl | (simp; done) | (simp [*]; done)), H', ⟨by have := HK1.out; omega⟩, ⟨HO_0.out⟩, ⟨by repeat (first | (with_reducible first | exact HK.out | apply Kept.alloc | apply Kept.drewN | apply Kept.drew) | exact HK.out)⟩, ⟨by repeat (first | exact HB.out | apply below_alloc | apply pw_below_drewN | apply below_drew1)⟩⟩
     ·rw [if_neg c5] at H
      have c5b0 : decide ((rd l0 x5_1) < a1) = false := decide_eq_false c5
      clear c5
      by_cases c7 : (rd l0 x5_1) = a1
      ·rw [if_pos c7] at H
       have c7b0 : ((rd l0 x5_1) == a1) = true := beq_iff_eq.mpr c7
       have c7b1 : ((rd l0 x5_1) != a1) = false := bne_eq_false_iff_eq.mpr c7
       clear c7
       obtain rfl := Option.some.inj H
       obtain ⟨Ao8, co8, eo8⟩ := Kd.R_slice HO_0.out
       subst eo8
       have p100001 : 0 ≤ (x5_1 : Int) := of_decide_eq_true (by assumption)
       have q100001 : x5_1 < (l0.length : Int) := of_decide_eq_true (by assumption)
       obtain ⟨ad100001, e100001, hx100001_0⟩ := Kd.at_int (Kd.R_reads' HO_0.out).2.2 x5_1 p100001 q100001
       cases e100001
       replace p100001 := eq_true p100001
       replace q100001 := eq_true q100001
       have p100002 : 0 ≤ (x5_1 : Int) := of_decide_eq_true (by assumption)
       have q100002 : x5_1 < (l0.length : Int) := of_decide_eq_true (by assumption)
       obtain ⟨ad100002, e100002, hx100002_0⟩ := Kd.at_int (Kd.R_reads' HO_0.out).2.2 x5_1 p100002 q100002
       obtain rfl : ad100001 = ad100002 := (by injection e100002)
       replace p100002 := eq_true p100002
       replace q100002 := eq_true q100002
       go_wp2
       go_ret
       exact ⟨_, by first | rfl | (simp [errW_none, errW_some] <;> rfl) | (simp [*, errW_none, errW_some] <;> rfl), by exact HO_0.out, by repeat (first | exact HB.out | apply below_alloc | apply pw_below_drewN | apply below_drew1), by repeat (first | (with_reducible first | exact HK.out | apply Kept.alloc | apply Kept.drewN | apply Kept.drew) | exact HK.out)⟩
      ·rw [if_neg c7] at H
       have c7b0 : ((rd l0 x5_1) == a1) = false := beq_eq_false_iff_ne.mpr c7
       have c7b1 : ((rd l0 x5_1) != a1) = true := bne_iff_ne.mpr c7
       obtain ⟨y100003, hy100003⟩ : ∃ y_ : List Int, y_ = (([] : List Int)) := ⟨_, rfl⟩
       replace H : (if x5_1 ≤ (l0.length : Int) then ((some (l0.take (x5_1 : Int).toNat : List Int)).bind fun y100006 => (if y100003.length + y100006.length < 17592186044416 then ((some (y100003 ++ y100006 : List Int)).bind fun y100010 => (if y100010.length < 17592186044416 then ((some (y100010 ++ [a1] : List Int)).bind fun y100013 => ((some (l0.drop (x5_1 : Int).toNat : List Int)).bind fun y100016 => (if y100013.length + y100016.length < 17592186044416 then (some (y100013 ++ y100016)) else (none)))) else (none))) else (none))) else (none)) = some r := by first | (rw [hy100003]; with_reducible exact H) | (have H2_ := (Option.bind_some _ _).symm.trans H; rw [hy100003]; with_reducible exact H2_) | (have H2_ := (Option.bind_some _ _).symm.trans H; with_reducible exact H2_) | with_reducible exact H | (rw [hy100003]; exact H) | exact H
       have Ny100003 := Aside0.mk hy100003
       clear hy100003
       have c9b0 := eq_true (of_decide_eq_true (by assumption) : 0 ≤ x5_1)
       by_cases c10 : x5_1 ≤ (l0.length : Int)
       ·rw [if_pos c10] at H
        have c10b0 := eq_true c10
        have c10b1 : decide (x5_1 ≤ (l0.length : Int)) = true := decide_eq_true c10
        clear c10
        obtain ⟨y100006, hy100006⟩ : ∃ y_ : List Int, y_ = (l0.take (x5_1 : Int).toNat) := ⟨_, rfl⟩
        replace H : (if y100003.length + y100006.length < 17592186044416 then ((some (y100003 ++ y100006 : List Int)).bind fun y100010 => (if y100010.length < 17592186044416 then ((some (y100010 ++ [a1] : List Int)).bind fun y100013 => ((some (l0.drop (x5_1 : Int).toNat : List Int)).bind fun y100016 => (if y100013.length + y100016.length < 17592186044416 then (some (y100013 ++ y100016)) else (none)))) else (none))) else (none)) = some r := by first | (rw [hy100006]; with_reducible exact H) | (have H2_ := (Option.bind_some _ _).symm.trans H; rw [hy100006]; with_reducible exact H2_) | (have H2_ := (Option.bind_some _ _).symm.trans H; with_reducible exact H2_) | with_reducible exact H | (rw [hy100006]; exact H) | exact H
        have Ny100006 := Aside0.mk hy100006
        clear hy100006
        by_cases c11 : y100003.length + y100006.length < 17592186044416
        ·rw [if_pos c11] at H
         have LMc11 := Aside0.mk c11
         clear c11
         obtain ⟨y100010, hy100010⟩ : ∃ y_ : List Int, y_ = (y100003 ++ y100006) := ⟨_, rfl⟩
         replace H : (if y100010.length < 17592186044416 then ((some (y100010 ++ [a1] : List Int)).bind fun y100013 => ((some (l0.drop (x5_1 : Int).toNat : List Int)).bind fun y100016 => (if y100013.length + y100016.length < 17592186044416 then (some (y100013 ++ y100016)) else (none)))) else (none)) = some r := by first | (rw [hy100010]; with_reducible exact H) | (have H2_ := (Option.bind_some _ _).symm.trans H; rw [hy100010]; with_reducible exact H2_) | (have H2_ := (Option.bind_some _ _).symm.trans H; with_reducible exact H2_) | with_reducible exact H | (rw [hy100010]; exact H) | exact H
         have Ny100010 := Aside0.mk hy100010
         clear hy100010
         by_cases c12 : y100010.length < 17592186044416
         ·rw [if_pos c12] at H
          have LMc12 := Aside0.mk c12
          clear c12
          obtain ⟨y100013, hy100013⟩ : ∃ y_ : List Int, y_ = (y100010 ++ [a1]) := ⟨_, rfl⟩
          replace H : ((some (l0.drop (x5_1 : Int).toNat : List Int)).bind fun y100016 => (if y100013.length + y100016.length < 17592186044416 then (some (y100013 ++ y100016)) else (none))) = some r := by first | (rw [hy100013]; with_reducible exact H) | (have H2_ := (Option.bind_some _ _).symm.trans H; rw [hy100013]; with_reducible exact H2_) | (have H2_ := (Option.bind_some _ _).symm.trans H; with_reducible exact H2_) | with_reducible exact H | (rw [hy100013]; exact H) | exact H
          have Ny100013 := Aside0.mk hy100013
          clear hy100013
          have c13b0 := eq_true (of_decide_eq_true (by assumption) : 0 ≤ x5_1)
          have c14b0 := eq_true (of_decide_eq_true (by assumption) : x5_1 ≤ (l0.length : Int))
          obtain ⟨y100016, hy100016⟩ : ∃ y_ : List Int, y_ = (l0.drop (x5_1 : Int).toNat) := ⟨_, rfl⟩
          replace H : (if y100013.length + y100016.length < 17592186044416 then (some (y100013 ++ y100016)) else (none)) = some r := by first | (rw [hy100016]; with_reducible exact H) | (have H2_ := (Option.bind_some _ _).symm.trans H; rw [hy100016]; with_reducible exact H2_) | (have H2_ := (Option.bind_some _ _).symm.trans H; with_reducible exact H2_) | with_reducible exact H | (rw [hy100016]; exact H) | exact H
          have Ny100016 := Aside0.mk hy100016
          clear hy100016
          by_cases c15 : y100013.length + y100016.length < 17592186044416
          ·rw [if_pos c15] at H
           have LMc15 := Aside0.mk c15
           clear c15
           obtain ⟨y100020, hy100020⟩ : ∃ y_ : List Int, y_ = (y100013 ++ y100016) := ⟨_, rfl⟩
           replace H : (some y100020) = some r := by first | (rw [hy100020]; with_reducible exact H) | (have H2_ := (Option.bind_some _ _).symm.trans H; rw [hy100020]; with_reducible exact H2_) | (have H2_ := (Option.bind_some _ _).symm.trans H; with_reducible exact H2_) | with_reducible exact H | (rw [hy100020]; exact H) | exact H
           have Ny100020 := Aside0.mk hy100020
           clear hy100020
           obtain rfl := Option.some.inj H
           obtain ⟨Ao16, co16, eo16⟩ := Kd.R_slice HO_0.out
           subst eo16
           have p100001 : 0 ≤ (x5_1 : Int) := of_decide_eq_true (by assumption)
           have q100001 : x5_1 < (l0.length : Int) := of_decide_eq_true (by assumption)
           obtain ⟨ad100001, e100001, hx100001_0⟩ := Kd.at_int (Kd.R_reads' HO_0.out).2.2 x5_1 p100001 q100001
           cases e100001
           replace p100001 := eq_true p100001
           replace q100001 := eq_true q100001
           have p100002 : 0 ≤ (x5_1 : Int) := of_decide_eq_true (by assumption)
           have q100002 : x5_1 < (l0.length : Int) := of_decide_eq_true (by assumption)
           obtain ⟨ad100002, e100002, hx100002_0⟩ := Kd.at_int (Kd.R_reads' HO_0.out).2.2 x5_1 p100002 q100002
           obtain rfl : ad100001 = ad100002 := (by injection e100002)
           replace p100002 := eq_true p100002
           replace q100002 := eq_true q100002
           go_wp2_with (first | ((with_reducible refine gate_dst (N := 34) rfl ?_); refine Kd.R_lit (Kd.int .i64) _ 3 ?hg (N := 34) ?hd (xs := ([] : List Int)) (inner := []) (ok := fun _ => True) (okp := fun _ => True) ?hr ?hp (fun _ hk => hk) trivial (Below.refl _ _) (Nat.le_refl _) (by simp) ?_; (case hd => rfl); (case hg => rfl); (case hr => first | (go_simp; done) | (go_simp; rfl)); (case hp => exact (Reps.none _ _)); intro v100004 w17 ho18 hb hg_ hnew_; clear hg_ hnew_; (first | rw [← Ny100003.out] at ho18 | (simp only [Int.reduceToNat] at ho18; rw [← Ny100003.out] at ho18)); have n0_ := Aside0.mk (Kd.R_elder' (HO_0.out) (Kd.R_base ho18) hb); have n1_ := Aside0.mk (Kd.R_lower (Kd.R_new' (Kd.R_newM (M := fun k_ => (P0_ k_ ∨ w.heap.size ≤ k_)) ho18 (by first | exact HK.out.1 | exact (show Kept w _ (fun k_ => P0_ k_) from by repeat (first | (with_reducible first | exact HK.out | apply Kept.alloc | apply Kept.drewN | apply Kept.drew) | exact HK.out)).1) (fun k_ h_ => .inr h_)) (Kd.R_lt (HO_0.out))) (below_size (by repeat (first | exact HB.out | apply below_alloc | apply pw_below_drewN | apply below_drew1)))); have n2_ := Aside0.mk (Kept.below (S := (fun k_ => P0_ k_)) (by repeat (first | (with_reducible first | exact HK.out | apply Kept.alloc | apply Kept.drewN | apply Kept.drew) | exact HK.out)) hb); have n3_ := Aside0.mk (below_step (by repeat (first | exact HB.out | apply below_alloc | apply pw_below_drewN | apply below_drew1)) hb); clear HO_0; clear HK; clear HB; have HO_0 := n0_; have HO100005 := n1_; have HK := n2_; have HB := n3_; clear n0_ n1_ n2_ n3_; clear hb ho18; have q19 : (x5_1 : Int) ≤ ((l0.length : Int) : Int) := of_decide_eq_true (by assumption); obtain ⟨i019, hi019, _, hsz19, _⟩ := info_parts info3; have hroom19 : l0.length ≤ co16 := (Kd.R_reads' HO_0.out).2.1; have hC19 : Kd.C (Kd.int .i64) _ (some ad100001) l0.length l0 := (Kd.R_reads' HO_0.out).2.2; have hcut19 := cut_to (P := Try.prog) 32 3 .i64 Try.underlying32 hi019 (some ad100001) l0.length co16 x5_1 (of_decide_eq_true (by assumption)) q19 hroom19; have hr19 := Kd.C_take (m := (x5_1 : Int).toNat) hC19 (by omega); have hy19 : y100006.length = (x5_1 : Int).toNat := (by rw [Ny100006.out, List.length_take]; omega); rw [← Ny100006.out] at hr19; rw [← hy19] at hcut19; have HR100009 := Aside0.mk hr19; have HC100009 := Aside0.mk (show y100006.length ≤ co16 from by omega); clear hr19 hC19 hroom19 hi019 hsz19; have KY19 := Aside0.mk hy19; clear hy19; have KL19 := Aside0.mk (show (x5_1 : Int).toNat ≤ l0.length from by omega); replace q19 := eq_true q19) | ((with_reducible refine gate_builtin (b := .append) (xs := #[.tmp 34, .tmp 37]) rfl ?_); at_builtin; refine Kd.R_append_rows (Kd.int .i64) (w0 := w0) w0.heap.size rfl (.tmp 34) (.tmp 37) 32 3 (.int .i64 0) 8 rfl Try.underlying32 info3 rfl (by decide) (by omega) v100004 y100003 y100006 _ _ _ (fun k_ => (P0_ k_ ∨ w.heap.size ≤ k_) ∧ some k_ ≠ (.slice (some ad100001) l0.length co16 : Value).ownBlock) (fun _ => False) rfl rfl ?aO ?aR (fun _ _ h => h) (fun _ h => h.elim) ?aF ?aB ?aS ?aL ?_; (case aR => repeat (first | exact (by repeat (first | (with_reducible exact HR100009.out) | (with_reducible refine Kd.C_alloc ?_ _) | (with_reducible refine Kd.C_drewN ?_ _) | (with_reducible refine Kd.C_drew ?_) | exact HR100009.out)) | (with_reducible refine Kd.C_alloc ?_ _) | (with_reducible refine Kd.C_drewN ?_ _) | (with_reducible refine Kd.C_drew ?_))); (case aB => exact (by repeat (first | exact HB.out | apply below_alloc | apply pw_below_drewN | apply below_drew1))); (case aF => exact (fun k_ hk => ⟨(.inr (Nat.le_trans (by first | exact HK.out.1 | exact (show Kept w _ (fun k_ => P0_ k_) from by repeat (first | (with_reducible first | exact HK.out | apply Kept.alloc | apply Kept.drewN | apply Kept.drew) | exact HK.out)).1) hk)), Kd.fresh' (Kd.R_lt (HO_0.out)) k_ hk⟩)); (case aO => exact (by exact Kd.R_mono HO100005.out (fun _ hk => ⟨hk.1.1, hk.2⟩))); (case aS => exact (below_size (by repeat (first | exact HB.out | apply below_alloc | apply pw_below_drewN | apply below_drew1)))); (case aL => have := LMc11.out; omega); intro v100011 w20 ho hb hg hat; rw [← Ny100010.out] at ho; have n0_ := Aside0.mk (Kd.R_after (ok := (fun k_ => (P0_ k_ ∨ w.heap.size ≤ k_))) (HO_0.out) hg hat); have n1_ := Aside0.mk (hb); have n2_ := Aside0.mk (Kept.of_grown (S := (fun k_ => P0_ k_)) hg (by repeat (first | (with_reducible first | exact HK.out | apply Kept.alloc | apply Kept.drewN | apply Kept.drew) | exact HK.out)) (fun k_ e_ => (HO100005.out.1 k_ e_).1.1)); have n3_ := Aside0.mk ((show Kd.C (Kd.int .i64) w20 (some ad100001) y100006.length y100006 from by rw [Ny100006.out]; exact Kd.C_take (m := (x5_1 : Int).toNat) ((Kd.R_reads' (Kd.R_after (ok := (fun k_ => (P0_ k_ ∨ w.heap.size ≤ k_))) (HO_0.out) hg hat)).2.2) KL19.out)); have n4_ := Aside0.mk (ho); clear HO_0; clear HB; clear HK; clear HR100009; clear HO100005; have HO_0 := n0_; have HB := n1_; have HK := n2_; have HR100009 := n3_; have HO100012 := n4_; clear n0_ n1_ n2_ n3_ n4_; clear ho hb hg hat) | ((with_reducible refine gate_builtin (b := .append) (xs := #[.tmp 39, .tmp 41]) rfl ?_); at_builtin; refine Kd.R_append (Kd.int .i64) (w0 := w0) w0.heap.size rfl (.tmp 39) (.tmp 41) 32 3 (.int .i64 0) 8 rfl Try.underlying32 info3 rfl (by decide) (by omega) v100011 y100010 a1 [.int .i64 a1] (fun k_ => (P0_ k_ ∨ w.heap.size ≤ k_) ∧ some k_ ≠ (.slice (some ad100001) l0.length co16 : Value).ownBlock) (fun _ => False) rfl rfl ?aP (fun _ hk => hk.elim) ?aF ?aO ?aB ?aS ?aL ?_; (case aP => exact rfl); (case aB => exact (by repeat (first | exact HB.out | apply below_alloc | apply pw_below_drewN | apply below_drew1))); (case aF => exact (fun k_ hk => ⟨(.inr (Nat.le_trans (by first | exact HK.out.1 | exact (show Kept w _ (fun k_ => P0_ k_) from by repeat (first | (with_reducible first | exact HK.out | apply Kept.alloc | apply Kept.drewN | apply Kept.drew) | exact HK.out)).1) hk)), Kd.fresh' (Kd.R_lt (HO_0.out)) k_ hk⟩)); (case aO => exact (HO100012.out)); (case aS => exact (below_size (by repeat (first | exact HB.out | apply below_alloc | apply pw_below_drewN | apply below_drew1)))); (case aL => have := LMc12.out; omega); intro v100014 w21 ho hb hg hat; rw [← Ny100013.out] at ho; have n0_ := Aside0.mk (Kd.R_after (ok := (fun k_ => (P0_ k_ ∨ w.heap.size ≤ k_))) (HO_0.out) hg hat); have n1_ := Aside0.mk (hb); have n2_ := Aside0.mk (Kept.of_grown (S := (fun k_ => P0_ k_)) hg (by repeat (first | (with_reducible first | exact HK.out | apply Kept.alloc | apply Kept.drewN | apply Kept.drew) | exact HK.out)) (fun k_ e_ => (HO100012.out.1 k_ e_).1)); have n3_ := Aside0.mk ((show Kd.C (Kd.int .i64) w21 (some ad100001) y100006.length y100006 from by rw [Ny100006.out]; exact Kd.C_take (m := (x5_1 : Int).toNat) ((Kd.R_reads' (Kd.R_after (ok := (fun k_ => (P0_ k_ ∨ w.heap.size ≤ k_))) (HO_0.out) hg hat)).2.2) KL19.out)); have n4_ := Aside0.mk (ho); clear HO_0; clear HB; clear HK; clear HR100009; clear HO100012; have HO_0 := n0_; have HB := n1_; have HK := n2_; have HR100009 := n3_; have HO100015 := n4_; clear n0_ n1_ n2_ n3_ n4_; clear ho hb hg hat; have q22 : (x5_1 : Int) ≤ ((l0.length : Int) : Int) := of_decide_eq_true (by assumption); obtain ⟨i022, hi022, _, hsz22, _⟩ := info_parts info3; have hroom22 : l0.length ≤ co16 := (Kd.R_reads' HO_0.out).2.1; have hC22 : Kd.C (Kd.int .i64) _ (some ad100001) l0.length l0 := (Kd.R_reads' HO_0.out).2.2; have q022 : (0 : Int) ≤ (x5_1 : Int) := of_decide_eq_true (by assumption); have hcut22 := cut_from (P := Try.prog) 32 3 .i64 Try.underlying32 hi022 1 hsz22 (some ad100001) l0.length co16 x5_1 q022 q22; have hr22 := Kd.C_drop (m := (x5_1 : Int).toNat) (c := co16) hC22 (by omega) hroom22; obtain ⟨A22, hA22⟩ : ∃ A1, A1 = (if co16 = (x5_1 : Int).toNat then (some ad100001) else ((some ad100001) : Option Addr).map (·.add ((x5_1 : Int).toNat * 1))) := ⟨_, rfl⟩; obtain ⟨c22, hc22⟩ : ∃ c1, c1 = co16 - (x5_1 : Int).toNat := ⟨_, rfl⟩; have hy22 : y100016.length = l0.length - (x5_1 : Int).toNat := (by rw [Ny100016.out, List.length_drop] <;> omega); rw [show (l0).drop (x5_1 : Int).toNat = y100016 from Ny100016.out.symm] at hr22; replace hr22 : Kd.C (Kd.int .i64) _ A22 y100016.length y100016 := (by rw [hA22]; exact hr22); rw [← hy22, ← hA22, ← hc22] at hcut22; have HR100019 := Aside0.mk hr22; have HC100019 := Aside0.mk (show y100016.length ≤ c22 from by rw [hy22, hc22]; exact Nat.sub_le_sub_right hroom22 _); clear hr22 hC22 hroom22 hi022 hsz22 hc22; have KY22 := Aside0.mk hy22; have KA22 := Aside0.mk hA22; clear hy22 hA22; have KL22 := Aside0.mk (show (x5_1 : Int).toNat ≤ l0.length from by omega); replace q22 := eq_true q22) | ((with_reducible refine gate_builtin (b := .append) (xs := #[.tmp 43, .tmp 46]) rfl ?_); at_builtin; refine Kd.R_append_rows (Kd.int .i64) (w0 := w0) w0.heap.size rfl (.tmp 43) (.tmp 46) 32 3 (.int .i64 0) 8 rfl Try.underlying32 info3 rfl (by decide) (by omega) v100014 y100013 y100016 _ _ _ (fun k_ => (P0_ k_ ∨ w.heap.size ≤ k_) ∧ some k_ ≠ (.slice (some ad100001) l0.length co16 : Value).ownBlock) (fun _ => False) rfl rfl ?aO ?aR (fun _ _ h => h) (fun _ h => h.elim) ?aF ?aB ?aS ?aL ?_; (case aR => repeat (first | exact (by repeat (first | (with_reducible exact HR100019.out) | (with_reducible refine Kd.C_alloc ?_ _) | (with_reducible refine Kd.C_drewN ?_ _) | (with_reducible refine Kd.C_drew ?_) | exact HR100019.out)) | (with_reducible refine Kd.C_alloc ?_ _) | (with_reducible refine Kd.C_drewN ?_ _) | (with_reducible refine Kd.C_drew ?_))); (case aB => exact (by repeat (first | exact HB.out | apply below_alloc | apply pw_below_drewN | apply below_drew1))); (case aF => exact (fun k_ hk => ⟨(.inr (Nat.le_trans (by first | exact HK.out.1 | exact (show Kept w _ (fun k_ => P0_ k_) from by repeat (first | (with_reducible first | exact HK.out | apply Kept.alloc | apply Kept.drewN | apply Kept.drew) | exact HK.out)).1) hk)), Kd.fresh' (Kd.R_lt (HO_0.out)) k_ hk⟩)); (case aO => exact (HO100015.out)); (case aS => exact (below_size (by repeat (first | exact HB.out | apply below_alloc | apply pw_below_drewN | apply below_drew1)))); (case aL => have := LMc15.out; omega); intro v100021 w23 ho hb hg hat; rw [← Ny100020.out] at ho; have n0_ := Aside0.mk (Kd.R_after (ok := (fun k_ => (P0_ k_ ∨ w.heap.size ≤ k_))) (HO_0.out) hg hat); have n1_ := Aside0.mk (hb); have n2_ := Aside0.mk (Kept.of_grown (S := (fun k_ => P0_ k_)) hg (by repeat (first | (with_reducible first | exact HK.out | apply Kept.alloc | apply Kept.drewN | apply Kept.drew) | exact HK.out)) (fun k_ e_ => (HO100015.out.1 k_ e_).1)); have n3_ := Aside0.mk ((show Kd.C (Kd.int .i64) w23 (some ad100001) y100006.length y100006 from by rw [Ny100006.out]; exact Kd.C_take (m := (x5_1 : Int).toNat) ((Kd.R_reads' (Kd.R_after (ok := (fun k_ => (P0_ k_ ∨ w.heap.size ≤ k_))) (HO_0.out) hg hat)).2.2) KL19.out)); have n4_ := Aside0.mk ((show Kd.C (Kd.int .i64) w23 A22 y100016.length y100016 from by rw [Ny100016.out, KA22.out]; exact Kd.C_drop (m := (x5_1 : Int).toNat) (c := co16) ((Kd.R_reads' (Kd.R_after (ok := (fun k_ => (P0_ k_ ∨ w.heap.size ≤ k_))) (HO_0.out) hg hat)).2.2) KL22.out ((Kd.R_reads' (Kd.R_after (ok := (fun k_ => (P0_ k_ ∨ w.heap.size ≤ k_))) (HO_0.out) hg hat)).2.1))); have n5_ := Aside0.mk (ho); clear HO_0; clear HB; clear HK; clear HR100009; clear HR100019; clear HO100015; have HO_0 := n0_; have HB := n1_; have HK := n2_; have HR100009 := n3_; have HR100019 := n4_; have HO100022 := n5_; clear n0_ n1_ n2_ n3_ n4_ n5_; clear ho hb hg hat))
           go_ret
           exact ⟨_, by first | rfl | (simp [errW_none, errW_some] <;> rfl) | (simp [*, errW_none, errW_some] <;> rfl), by exact Kd.R_mono HO100022.out (fun _ hk => hk.1), by repeat (first | exact HB.out | apply below_alloc | apply pw_below_drewN | apply below_drew1), by repeat (first | (with_reducible first | exact HK.out | apply Kept.alloc | apply Kept.drewN | apply Kept.drew) | exact HK.out)⟩
          ·rw [if_neg c15] at H
           exact absurd H (by simp)
         ·rw [if_neg c12] at H
          exact absurd H (by simp)
        ·rw [if_neg c11] at H
         exact absurd H (by simp)
       ·rw [if_neg c10] at H
        exact absurd H (by simp)
    ·rw [if_neg c4] at H
     exact absurd H (by simp)
   ·rw [if_neg c3] at H
    have c3b0 : decide (x5_1 < (l0.length : Int)) = false := decide_eq_false c3
    clear c3
    obtain ⟨y100023, hy100023⟩ : ∃ y_ : List Int, y_ = (([] : List Int)) := ⟨_, rfl⟩
    replace H : (if 0 ≤ x5_1 then (if x5_1 ≤ (l0.length : Int) then ((some (l0.take (x5_1 : Int).toNat : List Int)).bind fun y100026 => (if y100023.length + y100026.length < 17592186044416 then ((some (y100023 ++ y100026 : List Int)).bind fun y100030 => (if y100030.length < 17592186044416 then ((some (y100030 ++ [a1] : List Int)).bind fun y100033 => ((some (l0.drop (x5_1 : Int).toNat : List Int)).bind fun y100036 => (if y100033.length + y100036.length < 17592186044416 then (some (y100033 ++ y100036)) else (none)))) else (none))) else (none))) else (none)) else (none)) = some r := by first | (rw [hy100023]; with_reducible exact H) | (have H2_ := (Option.bind_some _ _).symm.trans H; rw [hy100023]; with_reducible exact H2_) | (have H2_ := (Option.bind_some _ _).symm.trans H; with_reducible exact H2_) | with_reducible exact H | (rw [hy100023]; exact H) | exact H
    have Ny100023 := Aside0.mk hy100023
    clear hy100023
    by_cases c24 : 0 ≤ x5_1
    ·rw [if_pos c24] at H
     have c24b0 := eq_true c24
     have c24b1 : decide (0 ≤ x5_1) = true := decide_eq_true c24
     clear c24
     by_cases c25 : x5_1 ≤ (l0.length : Int)
     ·rw [if_pos c25] at H
      have c25b0 := eq_true c25
      have c25b1 : decide (x5_1 ≤ (l0.length : Int)) = true := decide_eq_true c25
      clear c25
      obtain ⟨y100026, hy100026⟩ : ∃ y_ : List Int, y_ = (l0.take (x5_1 : Int).toNat) := ⟨_, rfl⟩
      replace H : (if y100023.length + y100026.length < 17592186044416 then ((some (y100023 ++ y100026 : List Int)).bind fun y100030 => (if y100030.length < 17592186044416 then ((some (y100030 ++ [a1] : List Int)).bind fun y100033 => ((some (l0.drop (x5_1 : Int).toNat : List Int)).bind fun y100036 => (if y100033.length + y100036.length < 17592186044416 then (some (y100033 ++ y100036)) else (none)))) else (none))) else (none)) = some r := by first | (rw [hy100026]; with_reducible exact H) | (have H2_ := (Option.bind_some _ _).symm.trans H; rw [hy100026]; with_reducible exact H2_) | (have H2_ := (Option.bind_some _ _).symm.trans H; with_reducible exact H2_) | with_reducible exact H | (rw [hy100026]; exact H) | exact H
      have Ny100026 := Aside0.mk hy100026
      clear hy100026
      by_cases c26 : y100023.length + y100026.length < 17592186044416
      ·rw [if_pos c26] at H
       have LMc26 := Aside0.mk c26
       clear c26
       obtain ⟨y100030, hy100030⟩ : ∃ y_ : List Int, y_ = (y100023 ++ y100026) := ⟨_, rfl⟩
       replace H : (if y100030.length < 17592186044416 then ((some (y100030 ++ [a1] : List Int)).bind fun y100033 => ((some (l0.drop (x5_1 : Int).toNat : List Int)).bind fun y100036 => (if y100033.length + y100036.length < 17592186044416 then (some (y100033 ++ y100036)) else (none)))) else (none)) = some r := by first | (rw [hy100030]; with_reducible exact H) | (have H2_ := (Option.bind_some _ _).symm.trans H; rw [hy100030]; with_reducible exact H2_) | (have H2_ := (Option.bind_some _ _).symm.trans H; with_reducible exact H2_) | with_reducible exact H | (rw [hy100030]; exact H) | exact H
       have Ny100030 := Aside0.mk hy100030
       clear hy100030
       by_cases c27 : y100030.length < 17592186044416
       ·rw [if_pos c27] at H
        have LMc27 := Aside0.mk c27
        clear c27
        obtain ⟨y100033, hy100033⟩ : ∃ y_ : List Int, y_ = (y100030 ++ [a1]) := ⟨_, rfl⟩
        replace H : ((some (l0.drop (x5_1 : Int).toNat : List Int)).bind fun y100036 => (if y100033.length + y100036.length < 17592186044416 then (some (y100033 ++ y100036)) else (none))) = some r := by first | (rw [hy100033]; with_reducible exact H) | (have H2_ := (Option.bind_some _ _).symm.trans H; rw [hy100033]; with_reducible exact H2_) | (have H2_ := (Option.bind_some _ _).symm.trans H; with_reducible exact H2_) | with_reducible exact H | (rw [hy100033]; exact H) | exact H
        have Ny100033 := Aside0.mk hy100033
        clear hy100033
        have c28b0 := eq_true (of_decide_eq_true (by assumption) : 0 ≤ x5_1)
        have c29b0 := eq_true (of_decide_eq_true (by assumption) : x5_1 ≤ (l0.length : Int))
        obtain ⟨y100036, hy100036⟩ : ∃ y_ : List Int, y_ = (l0.drop (x5_1 : Int).toNat) := ⟨_, rfl⟩
        replace H : (if y100033.length + y100036.length < 17592186044416 then (some (y100033 ++ y100036)) else (none)) = some r := by first | (rw [hy100036]; with_reducible exact H) | (have H2_ := (Option.bind_some _ _).symm.trans H; rw [hy100036]; with_reducible exact H2_) | (have H2_ := (Option.bind_some _ _).symm.trans H; with_reducible exact H2_) | with_reducible exact H | (rw [hy100036]; exact H) | exact H
        have Ny100036 := Aside0.mk hy100036
        clear hy100036
        by_cases c30 : y100033.length + y100036.length < 17592186044416
        ·rw [if_pos c30] at H
         have LMc30 := Aside0.mk c30
         clear c30
         obtain ⟨y100040, hy100040⟩ : ∃ y_ : List Int, y_ = (y100033 ++ y100036) := ⟨_, rfl⟩
         replace H : (some y100040) = some r := by first | (rw [hy100040]; with_reducible exact H) | (have H2_ := (Option.bind_some _ _).symm.trans H; rw [hy100040]; with_reducible exact H2_) | (have H2_ := (Option.bind_some _ _).symm.trans H; with_reducible exact H2_) | with_reducible exact H | (rw [hy100040]; exact H) | exact H
         have Ny100040 := Aside0.mk hy100040
         clear hy100040
         obtain rfl := Option.some.inj H
         obtain ⟨Ao31, co31, eo31⟩ := Kd.R_slice HO_0.out
         subst eo31
         go_wp2_with (first | ((with_reducible refine gate_dst (N := 34) rfl ?_); refine Kd.R_lit (Kd.int .i64) _ 3 ?hg (N := 34) ?hd (xs := ([] : List Int)) (inner := []) (ok := fun _ => True) (okp := fun _ => True) ?hr ?hp (fun _ hk => hk) trivial (Below.refl _ _) (Nat.le_refl _) (by simp) ?_; (case hd => rfl); (case hg => rfl); (case hr => first | (go_simp; done) | (go_simp; rfl)); (case hp => exact (Reps.none _ _)); intro v100024 w32 ho33 hb hg_ hnew_; clear hg_ hnew_; (first | rw [← Ny100023.out] at ho33 | (simp only [Int.reduceToNat] at ho33; rw [← Ny100023.out] at ho33)); have n0_ := Aside0.mk (Kd.R_elder' (HO_0.out) (Kd.R_base ho33) hb); have n1_ := Aside0.mk (Kd.R_lower (Kd.R_new' (Kd.R_newM (M := fun k_ => (P0_ k_ ∨ w.heap.size ≤ k_)) ho33 (by first | exact HK.out.1 | exact (show Kept w _ (fun k_ => P0_ k_) from by repeat (first | (with_reducible first | exact HK.out | apply Kept.alloc | apply Kept.drewN | apply Kept.drew) | exact HK.out)).1) (fun k_ h_ => .inr h_)) (Kd.R_lt (HO_0.out))) (below_size (by repeat (first | exact HB.out | apply below_alloc | apply pw_below_drewN | apply below_drew1)))); have n2_ := Aside0.mk (Kept.below (S := (fun k_ => P0_ k_)) (by repeat (first | (with_reducible first | exact HK.out | apply Kept.alloc | apply Kept.drewN | apply Kept.drew) | exact HK.out)) hb); have n3_ := Aside0.mk (below_step (by repeat (first | exact HB.out | apply below_alloc | apply pw_below_drewN | apply below_drew1)) hb); clear HO_0; clear HK; clear HB; have HO_0 := n0_; have HO100025 := n1_; have HK := n2_; have HB := n3_; clear n0_ n1_ n2_ n3_; clear hb ho33; have q34 : (x5_1 : Int) ≤ ((l0.length : Int) : Int) := of_decide_eq_true (by assumption); obtain ⟨i034, hi034, _, hsz34, _⟩ := info_parts info3; have hroom34 : l0.length ≤ co31 := (Kd.R_reads' HO_0.out).2.1; have hC34 : Kd.C (Kd.int .i64) _ Ao31 l0.length l0 := (Kd.R_reads' HO_0.out).2.2; have hcut34 := cut_to (P := Try.prog) 32 3 .i64 Try.underlying32 hi034 Ao31 l0.length co31 x5_1 (of_decide_eq_true (by assumption)) q34 hroom34; have hr34 := Kd.C_take (m := (x5_1 : Int).toNat) hC34 (by omega); have hy34 : y100026.length = (x5_1 : Int).toNat := (by rw [Ny100026.out, List.length_take]; omega); rw [← Ny100026.out] at hr34; rw [← hy34] at hcut34; have HR100029 := Aside0.mk hr34; have HC100029 := Aside0.mk (show y100026.length ≤ co31 from by omega); clear hr34 hC34 hroom34 hi034 hsz34; have KY34 := Aside0.mk hy34; clear hy34; have KL34 := Aside0.mk (show (x5_1 : Int).toNat ≤ l0.length from by omega); replace q34 := eq_true q34) | ((with_reducible refine gate_builtin (b := .append) (xs := #[.tmp 34, .tmp 37]) rfl ?_); at_builtin; refine Kd.R_append_rows (Kd.int .i64) (w0 := w0) w0.heap.size rfl (.tmp 34) (.tmp 37) 32 3 (.int .i64 0) 8 rfl Try.underlying32 info3 rfl (by decide) (by omega) v100024 y100023 y100026 _ _ _ (fun k_ => (P0_ k_ ∨ w.heap.size ≤ k_) ∧ some k_ ≠ (.slice Ao31 l0.length co31 : Value).ownBlock) (fun _ => False) rfl rfl ?aO ?aR (fun _ _ h => h) (fun _ h => h.elim) ?aF ?aB ?aS ?aL ?_; (case aR => repeat (first | exact (by repeat (first | (with_reducible exact HR100029.out) | (with_reducible refine Kd.C_alloc ?_ _) | (with_reducible refine Kd.C_drewN ?_ _) | (with_reducible refine Kd.C_drew ?_) | exact HR100029.out)) | (with_reducible refine Kd.C_alloc ?_ _) | (with_reducible refine Kd.C_drewN ?_ _) | (with_reducible refine Kd.C_drew ?_))); (case aB => exact (by repeat (first | exact HB.out | apply below_alloc | apply pw_below_drewN | apply below_drew1))); (case aF => exact (fun k_ hk => ⟨(.inr (Nat.le_trans (by first | exact HK.out.1 | exact (show Kept w _ (fun k_ => P0_ k_) from by repeat (first | (with_reducible first | exact HK.out | apply Kept.alloc | apply Kept.drewN | apply Kept.drew) | exact HK.out)).1) hk)), Kd.fresh' (Kd.R_lt (HO_0.out)) k_ hk⟩)); (case aO => exact (by exact Kd.R_mono HO100025.out (fun _ hk => ⟨hk.1.1, hk.2⟩))); (case aS => exact (below_size (by repeat (first | exact HB.out | apply below_alloc | apply pw_below_drewN | apply below_drew1)))); (case aL => have := LMc26.out; omega); intro v100031 w35 ho hb hg hat; rw [← Ny100030.out] at ho; have n0_ := Aside0.mk (Kd.R_after (ok := (fun k_ => (P0_ k_ ∨ w.heap.size ≤ k_))) (HO_0.out) hg hat); have n1_ := Aside0.mk (hb); have n2_ := Aside0.mk (Kept.of_grown (S := (fun k_ => P0_ k_)) hg (by repeat (first | (with_reducible first | exact HK.out | apply Kept.alloc | apply Kept.drewN | apply Kept.drew) | exact HK.out)) (fun k_ e_ => (HO100025.out.1 k_ e_).1.1)); have n3_ := Aside0.mk ((show Kd.C (Kd.int .i64) w35 Ao31 y100026.length y100026 from by rw [Ny100026.out]; exact Kd.C_take (m := (x5_1 : Int).toNat) ((Kd.R_reads' (Kd.R_after (ok := (fun k_ => (P0_ k_ ∨ w.heap.size ≤ k_))) (HO_0.out) hg hat)).2.2) KL34.out)); have n4_ := Aside0.mk (ho); clear HO_0; clear HB; clear HK; clear HR100029; clear HO100025; have HO_0 := n0_; have HB := n1_; have HK := n2_; have HR100029 := n3_; have HO100032 := n4_; clear n0_ n1_ n2_ n3_ n4_; clear ho hb hg hat) | ((with_reducible refine gate_builtin (b := .append) (xs := #[.tmp 39, .tmp 41]) rfl ?_); at_builtin; refine Kd.R_append (Kd.int .i64) (w0 := w0) w0.heap.size rfl (.tmp 39) (.tmp 41) 32 3 (.int .i64 0) 8 rfl Try.underlying32 info3 rfl (by decide) (by omega) v100031 y100030 a1 [.int .i64 a1] (fun k_ => (P0_ k_ ∨ w.heap.size ≤ k_) ∧ some k_ ≠ (.slice Ao31 l0.length co31 : Value).ownBlock) (fun _ => False) rfl rfl ?aP (fun _ hk => hk.elim) ?aF ?aO ?aB ?aS ?aL ?_; (case aP => exact rfl); (case aB => exact (by repeat (first | exact HB.out | apply below_alloc | apply pw_below_drewN | apply below_drew1))); (case aF => exact (fun k_ hk => ⟨(.inr (Nat.le_trans (by first | exact HK.out.1 | exact (show Kept w _ (fun k_ => P0_ k_) from by repeat (first | (with_reducible first | exact HK.out | apply Kept.alloc | apply Kept.drewN | apply Kept.drew) | exact HK.out)).1) hk)), Kd.fresh' (Kd.R_lt (HO_0.out)) k_ hk⟩)); (case aO => exact (HO100032.out)); (case aS => exact (below_size (by repeat (first | exact HB.out | apply below_alloc | apply pw_below_drewN | apply below_drew1)))); (case aL => have := LMc27.out; omega); intro v100034 w36 ho hb hg hat; rw [← Ny100033.out] at ho; have n0_ := Aside0.mk (Kd.R_after (ok := (fun k_ => (P0_ k_ ∨ w.heap.size ≤ k_))) (HO_0.out) hg hat); have n1_ := Aside0.mk (hb); have n2_ := Aside0.mk (Kept.of_grown (S := (fun k_ => P0_ k_)) hg (by repeat (first | (with_reducible first | exact HK.out | apply Kept.alloc | apply Kept.drewN | apply Kept.drew) | exact HK.out)) (fun k_ e_ => (HO100032.out.1 k_ e_).1)); have n3_ := Aside0.mk ((show Kd.C (Kd.int .i64) w36 Ao31 y100026.length y100026 from by rw [Ny100026.out]; exact Kd.C_take (m := (x5_1 : Int).toNat) ((Kd.R_reads' (Kd.R_after (ok := (fun k_ => (P0_ k_ ∨ w.heap.size ≤ k_))) (HO_0.out) hg hat)).2.2) KL34.out)); have n4_ := Aside0.mk (ho); clear HO_0; clear HB; clear HK; clear HR100029; clear HO100032; have HO_0 := n0_; have HB := n1_; have HK := n2_; have HR100029 := n3_; have HO100035 := n4_; clear n0_ n1_ n2_ n3_ n4_; clear ho hb hg hat; have q37 : (x5_1 : Int) ≤ ((l0.length : Int) : Int) := of_decide_eq_true (by assumption); obtain ⟨i037, hi037, _, hsz37, _⟩ := info_parts info3; have hroom37 : l0.length ≤ co31 := (Kd.R_reads' HO_0.out).2.1; have hC37 : Kd.C (Kd.int .i64) _ Ao31 l0.length l0 := (Kd.R_reads' HO_0.out).2.2; have q037 : (0 : Int) ≤ (x5_1 : Int) := of_decide_eq_true (by assumption); have hcut37 := cut_from (P := Try.prog) 32 3 .i64 Try.underlying32 hi037 1 hsz37 Ao31 l0.length co31 x5_1 q037 q37; have hr37 := Kd.C_drop (m := (x5_1 : Int).toNat) (c := co31) hC37 (by omega) hroom37; obtain ⟨A37, hA37⟩ : ∃ A1, A1 = (if co31 = (x5_1 : Int).toNat then Ao31 else (Ao31 : Option Addr).map (·.add ((x5_1 : Int).toNat * 1))) := ⟨_, rfl⟩; obtain ⟨c37, hc37⟩ : ∃ c1, c1 = co31 - (x5_1 : Int).toNat := ⟨_, rfl⟩; have hy37 : y100036.length = l0.length - (x5_1 : Int).toNat := (by rw [Ny100036.out, List.length_drop] <;> omega); rw [show (l0).drop (x5_1 : Int).toNat = y100036 from Ny100036.out.symm] at hr37; replace hr37 : Kd.C (Kd.int .i64) _ A37 y100036.length y100036 := (by rw [hA37]; exact hr37); rw [← hy37, ← hA37, ← hc37] at hcut37; have HR100039 := Aside0.mk hr37; have HC100039 := Aside0.mk (show y100036.length ≤ c37 from by rw [hy37, hc37]; exact Nat.sub_le_sub_right hroom37 _); clear hr37 hC37 hroom37 hi037 hsz37 hc37; have KY37 := Aside0.mk hy37; have KA37 := Aside0.mk hA37; clear hy37 hA37; have KL37 := Aside0.mk (show (x5_1 : Int).toNat ≤ l0.length from by omega); replace q37 := eq_true q37) | ((with_reducible refine gate_builtin (b := .append) (xs := #[.tmp 43, .tmp 46]) rfl ?_); at_builtin; refine Kd.R_append_rows (Kd.int .i64) (w0 := w0) w0.heap.size rfl (.tmp 43) (.tmp 46) 32 3 (.int .i64 0) 8 rfl Try.underlying32 info3 rfl (by decide) (by omega) v100034 y100033 y100036 _ _ _ (fun k_ => (P0_ k_ ∨ w.heap.size ≤ k_) ∧ some k_ ≠ (.slice Ao31 l0.length co31 : Value).ownBlock) (fun _ => False) rfl rfl ?aO ?aR (fun _ _ h => h) (fun _ h => h.elim) ?aF ?aB ?aS ?aL ?_; (case aR => repeat (first | exact (by repeat (first | (with_reducible exact HR100039.out) | (with_reducible refine Kd.C_alloc ?_ _) | (with_reducible refine Kd.C_drewN ?_ _) | (with_reducible refine Kd.C_drew ?_) | exact HR100039.out)) | (with_reducible refine Kd.C_alloc ?_ _) | (with_reducible refine Kd.C_drewN ?_ _) | (with_reducible refine Kd.C_drew ?_))); (case aB => exact (by repeat (first | exact HB.out | apply below_alloc | apply pw_below_drewN | apply below_drew1))); (case aF => exact (fun k_ hk => ⟨(.inr (Nat.le_trans (by first | exact HK.out.1 | exact (show Kept w _ (fun k_ => P0_ k_) from by repeat (first | (with_reducible first | exact HK.out | apply Kept.alloc | apply Kept.drewN | apply Kept.drew) | exact HK.out)).1) hk)), Kd.fresh' (Kd.R_lt (HO_0.out)) k_ hk⟩)); (case aO => exact (HO100035.out)); (case aS => exact (below_size (by repeat (first | exact HB.out | apply below_alloc | apply pw_below_drewN | apply below_drew1)))); (case aL => have := LMc30.out; omega); intro v100041 w38 ho hb hg hat; rw [← Ny100040.out] at ho; have n0_ := Aside0.mk (Kd.R_after (ok := (fun k_ => (P0_ k_ ∨ w.heap.size ≤ k_))) (HO_0.out) hg hat); have n1_ := Aside0.mk (hb); have n2_ := Aside0.mk (Kept.of_grown (S := (fun k_ => P0_ k_)) hg (by repeat (first | (with_reducible first | exact HK.out | apply Kept.alloc | apply Kept.drewN | apply Kept.drew) | exact HK.out)) (fun k_ e_ => (HO100035.out.1 k_ e_).1)); have n3_ := Aside0.mk ((show Kd.C (Kd.int .i64) w38 Ao31 y100026.length y100026 from by rw [Ny100026.out]; exact Kd.C_take (m := (x5_1 : Int).toNat) ((Kd.R_reads' (Kd.R_after (ok := (fun k_ => (P0_ k_ ∨ w.heap.size ≤ k_))) (HO_0.out) hg hat)).2.2) KL34.out)); have n4_ := Aside0.mk ((show Kd.C (Kd.int .i64) w38 A37 y100036.length y100036 from by rw [Ny100036.out, KA37.out]; exact Kd.C_drop (m := (x5_1 : Int).toNat) (c := co31) ((Kd.R_reads' (Kd.R_after (ok := (fun k_ => (P0_ k_ ∨ w.heap.size ≤ k_))) (HO_0.out) hg hat)).2.2) KL37.out ((Kd.R_reads' (Kd.R_after (ok := (fun k_ => (P0_ k_ ∨ w.heap.size ≤ k_))) (HO_0.out) hg hat)).2.1))); have n5_ := Aside0.mk (ho); clear HO_0; clear HB; clear HK; clear HR100029; clear HR100039; clear HO100035; have HO_0 := n0_; have HB := n1_; have HK := n2_; have HR100029 := n3_; have HR100039 := n4_; have HO100042 := n5_; clear n0_ n1_ n2_ n3_ n4_ n5_; clear ho hb hg hat))
         go_ret
         exact ⟨_, by first | rfl | (simp [errW_none, errW_some] <;> rfl) | (simp [*, errW_none, errW_some] <;> rfl), by exact Kd.R_mono HO100042.out (fun _ hk => hk.1), by repeat (first | exact HB.out | apply below_alloc | apply pw_below_drewN | apply below_drew1), by repeat (first | (with_reducible first | exact HK.out | apply Kept.alloc | apply Kept.drewN | apply Kept.drew) | exact HK.out)⟩
        ·rw [if_neg c30] at H
         exact absurd H (by simp)
       ·rw [if_neg c27] at H
        exact absurd H (by simp)
      ·rw [if_neg c26] at H
       exact absurd H (by simp)
     ·rw [if_neg c25] at H
      exact absurd H (by simp)
    ·rw [if_neg c24] at H
     exact absurd H (by simp)

end Go.Proofs.Ytalpegglbfobiaa.G

namespace Go.Proofs.Ytalpegglbfobiaa.G
open Go.RowKit Go.Proofs.YtalpegglbfobiaaW.PrintWords Go.Proofs.YtalpegglbfobiaaW.PrintLast Go.Proofs.YtalpegglbfobiaaW.PrintMore
attribute [local go_sem] max2_int min2_int max_two min_two max_three min_three max_four min_four   -- for this text's walks alone
set_option linter.unusedVariables false
set_option linter.unusedSimpArgs false

mutual
def papermillref04_ends.l0 : Nat → List (S55) → List (S55) → List Int → Int → Option (List Int)
 | 0, _, _, _, _ => none
 | k + 1, x0, x1, x5, x6 => if x6 < (x0.length : Int) then (if 0 ≤ x6 then ((papermillref04_with.f k x5 ((rd_T55 x0 x6).f0)).bind fun t87002 => ((papermillref04_with.f k t87002 ((rd_T55 x0 x6).f1)).bind fun t87006 => (papermillref04_ends.l0 k x0 x1 t87006 (wrap64 (x6 + 1))))) else (none)) else (papermillref04_ends.l1 k x1 x5 0)
def papermillref04_ends.l1 : Nat → List (S55) → List Int → Int → Option (List Int)
 | 0, _, _, _ => none
 | k + 1, x1, x5, x7 => if x7 < (x1.length : Int) then (if 0 ≤ x7 then ((papermillref04_with.f k x5 ((rd_T55 x1 x7).f0)).bind fun t87010 => ((papermillref04_with.f k t87010 ((rd_T55 x1 x7).f1)).bind fun t87014 => (papermillref04_ends.l1 k x1 t87014 (wrap64 (x7 + 1))))) else (none)) else (some x5)
end
def papermillref04_ends.f (k : Nat) (l0 : List (S55)) (l1 : List (S55)) : Option (List Int) := papermillref04_ends.l0 k l0 l1 ([] : List Int) 0
def papermillref04_ends.T5 : Bool × List (List Nat × List Nat) := (true, [([], []), ([], []), ([], []), ([1, 2], [1, 2]), ([3], [3]), ([4], [4]), ([0, 5], [0, 5]), ([], []), ([], []), ([7, 8], [7, 8]), ([9], [9]), ([10], [10]), ([6, 11, 6], [6, 11]), ([12, 12, 0, 1, 2, 3, 4, 5, 6, 7, 8, 9, 10, 11, 12], [0, 12])])
def papermillref04_ends.B5 : List Nat := [0, 0, 0, 6, 14, 30, 63, 0, 0, 384, 896, 1920, 4095, 8191]
theorem papermillref04_ends.tab5 : rtab .any (opsOf Try.f86 5) = papermillref04_ends.T5 := by kernel_rfl
theorem papermillref04_ends.bits5 : waitsOk papermillref04_ends.T5.2 papermillref04_ends.B5 = true := by kernel_rfl
def papermillref04_ends.T9 : Bool × List (List Nat × List Nat) := (true, [([], []), ([], []), ([], []), ([1, 2], [1, 2]), ([3], [3]), ([4], [4]), ([0, 5], [0, 5]), ([], []), ([], []), ([7, 8], [7, 8]), ([9], [9]), ([10], [10]), ([6, 11, 6], [6, 11]), ([12, 12, 0, 1, 2, 3, 4, 5, 6, 7, 8, 9, 10, 11, 12], [0, 12])])
def papermillref04_ends.B9 : List Nat := [0, 0, 0, 6, 14, 30, 63, 0, 0, 384, 896, 1920, 4095, 8191]
theorem papermillref04_ends.tab9 : rtab .any (opsOf Try.f86 9) = papermillref04_ends.T9 := by kernel_rfl
theorem papermillref04_ends.bits9 : waitsOk papermillref04_ends.T9.2 papermillref04_ends.B9 = true := by kernel_rfl
set_option maxHeartbeats 8000000 in
set_option maxRecDepth 100000 in
theorem papermillref04_ends.calls (k : Nat) (A0 : Option Addr) (c0 : Nat) (l0 : List (S55)) (A1 : Option Addr) (c1 : Nat) (l1 : List (S55)) (r : List Int) (w : World) (hr0 : Kd.C k55 w A0 l0.length l0) (hc0 : l0.length ≤ c0) (hr1 : Kd.C k55 w A1 l1.length l1) (hc1 : l1.length ≤ c1) (h : papermillref04_ends.f k l0 l1 = some r) :
  Calls Try.prog 86 #[.slice A0 l0.length c0, .slice A1 l1.length c1] w fun e w' => ∃ v0_ : Value, e = .returned (v0_) ∧ Kd.R (Kd.int .i64) 3 w' w.heap.size (fun _ => True) v0_ r ∧ Below w.heap.size w w' := by
 have HR0 := Aside0.mk hr0
 have HC0 := Aside0.mk hc0
 clear hr0 hc0
 have HR1 := Aside0.mk hr1
 have HC1 := Aside0.mk hc1
 clear hr1 hc1
 have HB := Aside0.mk (Below.refl w.heap.size w)
 have H : (papermillref04_ends.l0 k l0 l1 ([] : List Int) 0) = some r := h
 clear h
 have H' := Aside0.mk H
 clear H
 go_enter Try.func86, Try.ntmps86
 go_wp2
 go_loopg [5, 6] k (fun kq v5 v6 w' => ∃ (x5_1 : List Int) (x6_1 : Int), v6 = .int .i64 x6_1 ∧ Aside0 (papermillref04_ends.l0 kq l0 l1 x5_1 x6_1 = some r) ∧ Aside0 (kq ≤ k) ∧ Aside0 (Kd.R (Kd.int .i64) 3 w' w.heap.size (fun _ => True) v5 x5_1) ∧ Aside0 (Below w.heap.size w w'))
 case atStart => exact ⟨(([] : List Int)), (0), (by first | rfl | (simp; done) | (simp [*]; done)), H', ⟨Nat.le_refl _⟩, ⟨by first | exact Kd.R_nil _ _ _ _ _ | exact Kd.N_nil _ _ _ _ _ | exact Kd.V_nil _ _ _ _ _ | exact Kd.Q_nil _ _ _ _ _ | exact Kd.S_nil _ _ _ _ _⟩, ⟨by repeat (first | exact HB.out | apply below_alloc | apply pw_below_drewN | apply below_drew1)⟩⟩
 case round =>
  clear H'
  try clear c1
  try clear p2
  obtain ⟨x5_1, x6_1, rfl, HA, HK1, HO_5, HB⟩ := hrel
  cases gk with
  | zero => exact absurd HA.out (by simp [papermillref04_ends.l0])
  | succ k1 =>
   have H := HA.out
   clear HA
   simp only [papermillref04_ends.l0] at H
   by_cases c3 : x6_1 < (l0.length : Int)
   ·rw [if_pos c3] at H
    have c3b0 : decide (x6_1 < (l0.length : Int)) = true := decide_eq_true c3
    clear c3
    by_cases c4 : 0 ≤ x6_1
    ·rw [if_pos c4] at H
     have c4b0 : decide (0 ≤ x6_1) = true := decide_eq_true c4
     clear c4
     replace H := Option.bind_eq_some_iff.mp H
     obtain ⟨t87002, A50, H⟩ := H
     replace H : ((papermillref04_with.f k1 t87002 ((rd_T55 l0 x6_1).f1)).bind fun t87006 => (papermillref04_ends.l0 k1 l0 l1 t87006 (wrap64 (x6_1 + 1)))) = some r := H
     have A5 := Aside0.mk A50
     clear A50
     replace H := Option.bind_eq_some_iff.mp H
     obtain ⟨t87006, A60, H⟩ := H
     replace H : (papermillref04_ends.l0 k1 l0 l1 t87006 (wrap64 (x6_1 + 1))) = some r := H
     have A6 := Aside0.mk A60
     clear A60
     have H' := Aside0.mk H
     clear H
     try go_wp2
     have n0_ := Aside0.mk (Kd.R_drew HO_5.out)
     have n1_ := Aside0.mk (below_drew1 HB.out)
     clear HO_5
     clear HB
     have HO_5 := n0_
     have HB := n1_
     clear n0_ n1_
     have p87001 : 0 ≤ (x6_1 : Int) := of_decide_eq_true (by assumption)
     have q87001 : x6_1 < (l0.length : Int) := of_decide_eq_true (by assumption)
     obtain ⟨ad87001, e87001, hx87001_0, hx87001_1⟩ := at_T55 HR0.out x6_1 p87001 q87001
     have hw87001_1 := hx87001_1
     have hw87001_0 := hx87001_0
     cases e87001
     replace hx87001_0 := (HB.out.cell (World.block_lt_of_cell? w _ hx87001_0)).trans hx87001_0
     replace hx87001_1 := (HB.out.cell (World.block_lt_of_cell? w _ hx87001_1)).trans hx87001_1
     replace p87001 := eq_true p87001
     replace q87001 := eq_true q87001
     have p87005 : 0 ≤ (x6_1 : Int) := of_decide_eq_true (by assumption)
     have q87005 : x6_1 < (l0.length : Int) := of_decide_eq_true (by assumption)
     obtain ⟨ad87005, e87005, hx87005_0, hx87005_1⟩ := at_T55 HR0.out x6_1 p87005 q87005
     have hw87005_1 := hx87005_1
     have hw87005_0 := hx87005_0
     obtain rfl : ad87001 = ad87005 := (by injection e87005)
     replace hx87005_0 := (HB.out.cell (World.block_lt_of_cell? w _ hx87005_0)).trans hx87005_0
     replace hx87005_1 := (HB.out.cell (World.block_lt_of_cell? w _ hx87005_1)).trans hx87005_1
     replace p87005 := eq_true p87005
     replace q87005 := eq_true q87005
     obtain ⟨Ao8, co8, eo8⟩ := Kd.R_slice HO_5.out
     (first | subst eo8 | (injection eo8 with f1_ f2_ f3_; have f4_ := f1_.symm; have f5_ := f3_.symm; clear f1_ f2_ f3_; subst f4_; subst f5_))
     refine start_ (n := 14) (S := fun w' => w'.cell? (ad87001.add ((x6_1).toNat * 2)) = some (.int .i64 ((rd_T55 l0 x6_1).f0)) ∧ w'.cell? ⟨(ad87001.add ((x6_1).toNat * 2)).block, (ad87001.add ((x6_1).toNat * 2)).off + 1, none⟩ = some (.int .i64 ((rd_T55 l0 x6_1).f1)) ∧ w'.cell? (ad87001.add ((x6_1).toNat * 2)) = some (.int .i64 ((rd_T55 l0 x6_1).f0)) ∧ w'.cell? ⟨(ad87001.add ((x6_1).toNat * 2)).block, (ad87001.add ((x6_1).toNat * 2)).off + 1, none⟩ = some (.int .i64 ((rd_T55 l0 x6_1).f1))) (ds := []) #[false, false, false, false, false, false, false, false, false, false, false, false, false, false] (by kernel_rfl) rfl rfl ⟨((HB.out.cell (World.block_lt_of_cell? w _ hw87001_0)).trans hw87001_0), ((HB.out.cell (World.block_lt_of_cell? w _ hw87001_1)).trans hw87001_1), ((HB.out.cell (World.block_lt_of_cell? w _ hw87005_0)).trans hw87005_0), ((HB.out.cell (World.block_lt_of_cell? w _ hw87005_1)).trans hw87005_1)⟩ (fun hHeld => ?_); refine with_tabW papermillref04_ends.tab5 papermillref04_ends.bits5 (fun HT_ HW_ => ?_)
     generalize wr.drew = w7 at HO_5 HB hx87001_0 hx87001_1 hx87005_0 hx87005_1 hHeld ⊢
     refine pure_ (i := 0) (N := some 14) (v := ?_) (a' := ?_) #[true, false, false, false, false, false, false, false, false, false, false, false, false, false] rfl rfl (any_of HT_.out (by kernel_rfl)) (fun _ _ _ h => h) (Or.inl ⟨by rfl, ?_⟩) ?_ ?_
     rotate_left
     ·intro w'
      go_simp
      with_reducible rfl
     rotate_left
     ·simp only [Act.put, List.setIfInBounds_toArray, List.set_cons_zero, List.set_cons_succ, i64_w, i32_w]
      rfl
     refine pure_ (i := 1) (N := some 15) (v := ?_) (a' := ?_) #[true, true, false, false, false, false, false, false, false, false, false, false, false, false] rfl rfl (any_of HT_.out (by kernel_rfl)) (fun _ _ _ h => h) (Or.inl ⟨by rfl, ?_⟩) ?_ ?_
     rotate_left
     ·intro w'
      go_simp
      with_reducible rfl
     rotate_left
     ·simp only [Act.put, List.setIfInBounds_toArray, List.set_cons_zero, List.set_cons_succ, i64_w, i32_w]
      rfl
     refine pure_ (i := 2) (N := some 16) (v := ?_) (a' := ?_) #[true, true, true, false, false, false, false, false, false, false, false, false, false, false] rfl rfl (any_of HT_.out (by kernel_rfl)) (fun _ _ _ h => h) (Or.inl ⟨by rfl, ?_⟩) ?_ ?_
     rotate_left
     ·intro w'
      go_simp
      with_reducible rfl
     rotate_left
     ·simp only [Act.put, List.setIfInBounds_toArray, List.set_cons_zero, List.set_cons_succ, i64_w, i32_w]
      rfl
     refine pure_ (i := 3) (N := some 17) (v := ?_) (a' := ?_) #[true, true, true, true, false, false, false, false, false, false, false, false, false, false] rfl rfl (any_of HT_.out (by kernel_rfl)) (fun _ _ _ h => h) (Or.inl ⟨by rfl, ?_⟩) ?_ ?_
     rotate_left
     ·intro w'
      go_simp
      with_reducible rfl
     rotate_left
     ·simp only [Act.put, List.setIfInBounds_toArray, List.set_cons_zero, List.set_cons_succ, i64_w, i32_w]
      rfl
     refine pure_ (i := 4) (N := some 18) (v := ?_) (a' := ?_) #[true, true, true, true, true, false, false, false, false, false, false, false, false, false] rfl rfl (any_of HT_.out (by kernel_rfl)) (fun _ _ _ h => h) (Or.inl ⟨by rfl, ?_⟩) ?_ ?_
     rotate_left
     ·intro w'
      go_simp
      with_reducible rfl
     rotate_left
     ·simp only [Act.put, List.setIfInBounds_toArray, List.set_cons_zero, List.set_cons_succ, i64_w, i32_w]
      rfl
     refine pure_ (i := 7) (N := some 21) (v := ?_) (a' := ?_) #[true, true, true, true, true, false, false, true, false, false, false, false, false, false] rfl rfl (any_of HT_.out (by kernel_rfl)) (fun _ _ _ h => h) (Or.inl ⟨by rfl, ?_⟩) ?_ ?_
     rotate_left
     ·intro w'
      go_simp
      with_reducible rfl
     rotate_left
     ·simp only [Act.put, List.setIfInBounds_toArray, List.set_cons_zero, List.set_cons_succ, i64_w, i32_w]
      rfl
     refine pure_ (i := 8) (N := some 22) (v := ?_) (a' := ?_) #[true, true, true, true, true, false, false, true, true, false, false, false, false, false] rfl rfl (any_of HT_.out (by kernel_rfl)) (fun _ _ _ h => h) (Or.inl ⟨by rfl, ?_⟩) ?_ ?_
     rotate_left
     ·intro w'
      go_simp
      with_reducible rfl
     rotate_left
     ·simp only [Act.put, List.setIfInBounds_toArray, List.set_cons_zero, List.set_cons_succ, i64_w, i32_w]
      rfl
     refine pure_ (i := 9) (N := some 23) (v := ?_) (a' := ?_) #[true, true, true, true, true, false, false, true, true, true, false, false, false, false] rfl rfl (any_of HT_.out (by kernel_rfl)) (fun _ _ _ h => h) (Or.inl ⟨by rfl, ?_⟩) ?_ ?_
     rotate_left
     ·intro w'
      go_simp
      with_reducible rfl
     rotate_left
     ·simp only [Act.put, List.setIfInBounds_toArray, List.set_cons_zero, List.set_cons_succ, i64_w, i32_w]
      rfl
     refine pure_ (i := 10) (N := some 24) (v := ?_) (a' := ?_) #[true, true, true, true, true, false, false, true, true, true, true, false, false, false] rfl rfl (any_of HT_.out (by kernel_rfl)) (fun _ _ _ h => h) (Or.inl ⟨by rfl, ?_⟩) ?_ ?_
     rotate_left
     ·intro w'
      go_simp
      with_reducible rfl
     rotate_left
     ·simp only [Act.put, List.setIfInBounds_toArray, List.set_cons_zero, List.set_cons_succ, i64_w, i32_w]
      rfl
     refine take_ (i := 5) (N := some 19) (v := ?_) (a' := ?_) #[true, true, true, true, true, true, false, true, true, true, true, false, false, false] rfl rfl (take_ofW HT_.out HW_.out (by kernel_rfl)) (fun _ _ _ h => h) (Or.inl ⟨by rfl, ?_⟩) hHeld ?_ ?_
     rotate_left
     ·rintro w' ⟨s0, s1, s2, s3⟩
      go_simp
      with_reducible rfl
     rotate_left
     ·simp only [Act.put, List.setIfInBounds_toArray, List.set_cons_zero, List.set_cons_succ, i64_w, i32_w]
      rfl
     refine take_ (i := 11) (N := some 25) (v := ?_) (a' := ?_) #[true, true, true, true, true, true, false, true, true, true, true, true, false, false] rfl rfl (take_ofW HT_.out HW_.out (by kernel_rfl)) (fun _ _ _ h => h) (Or.inl ⟨by rfl, ?_⟩) hHeld ?_ ?_
     rotate_left
     ·rintro w' ⟨s0, s1, s2, s3⟩
      go_simp
      with_reducible rfl
     rotate_left
     ·simp only [Act.put, List.setIfInBounds_toArray, List.set_cons_zero, List.set_cons_succ, i64_w, i32_w]
      rfl
     refine one_ (i := 6) (N := some 20) #[true, true, true, true, true, true, true, true, true, true, true, true, false, false] rfl rfl (one_of HT_.out (by kernel_rfl)) (by decide) (fun K hK => ?_)
     refine goes_ Try.func99 (by kernel_rfl) rfl #[.slice Ao8 x5_1.length co8, .int .i64 ((rd_T55 l0 x6_1).f0)] (by rfl) rfl rfl (by (try simp only [List.map_toArray, List.map_cons, List.map_nil]); first | done | rfl | (simp only [List.length_drop, List.length_take]; rfl)) ?_
     with_reducible refine (papermillref04_with.calls k1 (fun k_ => some k_ = (.slice Ao8 x5_1.length co8 : Value).ownBlock) (.slice Ao8 x5_1.length co8) x5_1 ((rd_T55 l0 x6_1).f0) t87002 w _ ?side1 ?side2 A5.out).mono ?_
     (case side1 => repeat (first | exact HB.out | apply below_alloc | apply pw_below_drewN | apply below_drew1))
     (case side2 => exact Kd.R_tight rfl HO_5.out)
     rintro e w9 ⟨v87003, rfl, ho0, hb, hkp⟩
     refine ⟨_, rfl, ?_⟩
     have n0_ := Aside0.mk (Kd.R_mono (ok' := fun k_ => True) ho0 (fun k_ hk_ => trivial))
     have n1_ := Aside0.mk (hb)
     clear HB
     clear HO_5
     have HO87004 := n0_
     have HB := n1_
     clear n0_ n1_
     (try clear hb)
     (try clear hkp)
     (try clear ho0)
     obtain ⟨Ao10, co10, eo10⟩ := Kd.R_slice HO87004.out
     (first | subst eo10 | (injection eo10 with f1_ f2_ f3_; have f4_ := f1_.symm; have f5_ := f3_.symm; clear f1_ f2_ f3_; subst f4_; subst f5_))
     refine hK.out _ _ ⟨((HB.out.cell (World.block_lt_of_cell? w _ hw87001_0)).trans hw87001_0), ((HB.out.cell (World.block_lt_of_cell? w _ hw87001_1)).trans hw87001_1), ((HB.out.cell (World.block_lt_of_cell? w _ hw87005_0)).trans hw87005_0), ((HB.out.cell (World.block_lt_of_cell? w _ hw87005_1)).trans hw87005_1)⟩ (fun hHeld => ?_)
     clear hK K
     refine norm_ (a' := ?_) ?_ ?_
     rotate_left
     ·show Act.put _ (some 20) _ = _
      simp only [Act.put, List.setIfInBounds_toArray, List.set_cons_zero, List.set_cons_succ, i64_w, i32_w]
      rfl
     refine one_ (i := 12) (N := some 26) #[true, true, true, true, true, true, true, true, true, true, true, true, true, false] rfl rfl (one_of HT_.out (by kernel_rfl)) (by decide) (fun K hK => ?_)
     refine goes_ Try.func99 (by kernel_rfl) rfl #[.slice Ao10 t87002.length co10, .int .i64 ((rd_T55 l0 x6_1).f1)] (by rfl) rfl rfl (by (try simp only [List.map_toArray, List.map_cons, List.map_nil]); first | done | rfl | (simp only [List.length_drop, List.length_take]; rfl)) ?_
     with_reducible refine (papermillref04_with.calls k1 (fun k_ => some k_ = (.slice Ao10 t87002.length co10 : Value).ownBlock) (.slice Ao10 t87002.length co10) t87002 ((rd_T55 l0 x6_1).f1) t87006 w _ ?side1 ?side2 A6.out).mono ?_
     (case side1 => repeat (first | exact HB.out | apply below_alloc | apply pw_below_drewN | apply below_drew1))
     (case side2 => exact Kd.R_tight rfl HO87004.out)
     rintro e w11 ⟨v87007, rfl, ho0, hb, hkp⟩
     refine ⟨_, rfl, ?_⟩
     have n0_ := Aside0.mk (Kd.R_mono (ok' := fun k_ => True) ho0 (fun k_ hk_ => trivial))
     have n1_ := Aside0.mk (hb)
     clear HB
     clear HO87004
     have HO87008 := n0_
     have HB := n1_
     clear n0_ n1_
     (try clear hb)
     (try clear hkp)
     (try clear ho0)
     refine hK.out _ _ ⟨((HB.out.cell (World.block_lt_of_cell? w _ hw87001_0)).trans hw87001_0), ((HB.out.cell (World.block_lt_of_cell? w _ hw87001_1)).trans hw87001_1), ((HB.out.cell (World.block_lt_of_cell? w _ hw87005_0)).trans hw87005_0), ((HB.out.cell (World.block_lt_of_cell? w _ hw87005_1)).trans hw87005_1)⟩ (fun hHeld => ?_)
     clear hK K
     refine norm_ (a' := ?_) ?_ ?_
     rotate_left
     ·show Act.put _ (some 26) _ = _
      simp only [Act.put, List.setIfInBounds_toArray, List.set_cons_zero, List.set_cons_succ, i64_w, i32_w]
      rfl
     refine pure_ (i := 13) (N := some 5) (v := ?_) (a' := ?_) #[true, true, true, true, true, true, true, true, true, true, true, true, true, true] rfl rfl (any_of HT_.out (by kernel_rfl)) (fun _ _ _ h => h) (Or.inl ⟨by rfl, ?_⟩) ?_ ?_
     rotate_left
     ·intro w'
      go_simp
      with_reducible rfl
     rotate_left
     ·simp only [Act.put, List.setIfInBounds_toArray, List.set_cons_zero, List.set_cons_succ, i64_w, i32_w]
      rfl
     refine done_ (done_of HT_.out (by kernel_rfl)) ?_
     try go_wp2
     go_roundg k1
     case measure => have := HK1.out; omega
     case rel => exact ⟨(t87006), (wrap64 (x6_1 + 1)), (by first | rfl | (simp; done) | (simp [*]; done)), H', ⟨by have := HK1.out; omega⟩, ⟨HO87008.out⟩, ⟨by repeat (first | exact HB.out | apply below_alloc | apply pw_below_drewN | apply below_drew1)⟩⟩
    ·rw [if_neg c4] at H
     exact absurd H (by simp)
   ·rw [if_neg c3] at H
    have c3b0 : decide (x6_1 < (l0.length : Int)) = false := decide_eq_false c3
    clear c3
    have H' := Aside0.mk H
    clear H
    go_wp2
    go_loopg [5, 7] k1 (fun kq v5 v7 w' => ∃ (x5_2 : List Int) (x7_2 : Int), v7 = .int .i64 x7_2 ∧ Aside0 (papermillref04_ends.l1 kq l1 x5_2 x7_2 = some r) ∧ Aside0 (kq ≤ k1) ∧ Aside0 (Kd.R (Kd.int .i64) 3 w' w.heap.size (fun _ => True) v5 x5_2) ∧ Aside0 (Below w.heap.size w w'))
    case atStart => exact ⟨(x5_1), (0), (by first | rfl | (simp; done) | (simp [*]; done)), H', ⟨Nat.le_refl _⟩, ⟨HO_5.out⟩, ⟨by repeat (first | exact HB.out | apply below_alloc | apply pw_below_drewN | apply below_drew1)⟩⟩
    case round =>
     clear H'
     try clear c1
     try clear p2
     try clear c3
     try clear c3b0
     try clear c4
     try clear c4b0
     try clear p6
     try clear c8
     try clear p8
     try clear q8
     try clear hx8
     try clear c9
     try clear hx87001_0
     try clear hx87001_1
     try clear hx87005_0
     try clear hx87005_1
     try clear p2
     try clear p87001
     try clear p87005
     try clear q87001
     try clear q87005
     obtain ⟨x5_2, x7_2, rfl, HA, HK2, HO_5, HB⟩ := hrel
     cases gk with
     | zero => exact absurd HA.out (by simp [papermillref04_ends.l1])
     | succ k2 =>
      have H := HA.out
      clear HA
      simp only [papermillref04_ends.l1] at H
      by_cases c12 : x7_2 < (l1.length : Int)
      ·rw [if_pos c12] at H
       have c12b0 : decide (x7_2 < (l1.length : Int)) = true := decide_eq_true c12
       clear c12
       by_cases c13 : 0 ≤ x7_2
       ·rw [if_pos c13] at H
        have c13b0 : decide (0 ≤ x7_2) = true := decide_eq_true c13
        clear c13
        replace H := Option.bind_eq_some_iff.mp H
        obtain ⟨t87010, A140, H⟩ := H
        replace H : ((papermillref04_with.f k2 t87010 ((rd_T55 l1 x7_2).f1)).bind fun t87014 => (papermillref04_ends.l1 k2 l1 t87014 (wrap64 (x7_2 + 1)))) = some r := H
        have A14 := Aside0.mk A140
        clear A140
        replace H := Option.bind_eq_some_iff.mp H
        obtain ⟨t87014, A150, H⟩ := H
        replace H : (papermillref04_ends.l1 k2 l1 t87014 (wrap64 (x7_2 + 1))) = some r := H
        have A15 := Aside0.mk A150
        clear A150
        have H' := Aside0.mk H
        clear H
        try go_wp2
        have n0_ := Aside0.mk (Kd.R_drew HO_5.out)
        have n1_ := Aside0.mk (below_drew1 HB.out)
        clear HO_5
        clear HB
        have HO_5 := n0_
        have HB := n1_
        clear n0_ n1_
        have p87009 : 0 ≤ (x7_2 : Int) := of_decide_eq_true (by assumption)
        have q87009 : x7_2 < (l1.length : Int) := of_decide_eq_true (by assumption)
        obtain ⟨ad87009, e87009, hx87009_0, hx87009_1⟩ := at_T55 HR1.out x7_2 p87009 q87009
        have hw87009_1 := hx87009_1
        have hw87009_0 := hx87009_0
        cases e87009
        replace hx87009_0 := (HB.out.cell (World.block_lt_of_cell? w _ hx87009_0)).trans hx87009_0
        replace hx87009_1 := (HB.out.cell (World.block_lt_of_cell? w _ hx87009_1)).trans hx87009_1
        replace p87009 := eq_true p87009
        replace q87009 := eq_true q87009
        have p87013 : 0 ≤ (x7_2 : Int) := of_decide_eq_true (by assumption)
        have q87013 : x7_2 < (l1.length : Int) := of_decide_eq_true (by assumption)
        obtain ⟨ad87013, e87013, hx87013_0, hx87013_1⟩ := at_T55 HR1.out x7_2 p87013 q87013
        have hw87013_1 := hx87013_1
        have hw87013_0 := hx87013_0
        obtain rfl : ad87009 = ad87013 := (by injection e87013)
        replace hx87013_0 := (HB.out.cell (World.block_lt_of_cell? w _ hx87013_0)).trans hx87013_0
        replace hx87013_1 := (HB.out.cell (World.block_lt_of_cell? w _ hx87013_1)).trans hx87013_1
        replace p87013 := eq_true p87013
        replace q87013 := eq_true q87013
        obtain ⟨Ao17, co17, eo17⟩ := Kd.R_slice HO_5.out
        (first | subst eo17 | (injection eo17 with f1_ f2_ f3_; have f4_ := f1_.symm; have f5_ := f3_.symm; clear f1_ f2_ f3_; subst f4_; subst f5_))
        refine start_ (n := 14) (S := fun w' => w'.cell? (ad87009.add ((x7_2).toNat * 2)) = some (.int .i64 ((rd_T55 l1 x7_2).f0)) ∧ w'.cell? ⟨(ad87009.add ((x7_2).toNat * 2)).block, (ad87009.add ((x7_2).toNat * 2)).off + 1, none⟩ = some (.int .i64 ((rd_T55 l1 x7_2).f1)) ∧ w'.cell? (ad87009.add ((x7_2).toNat * 2)) = some (.int .i64 ((rd_T55 l1 x7_2).f0)) ∧ w'.cell? ⟨(ad87009.add ((x7_2).toNat * 2)).block, (ad87009.add ((x7_2).toNat * 2)).off + 1, none⟩ = some (.int .i64 ((rd_T55 l1 x7_2).f1))) (ds := []) #[false, false, false, false, false, false, false, false, false, false, false, false, false, false] (by kernel_rfl) rfl rfl ⟨((HB.out.cell (World.block_lt_of_cell? w _ hw87009_0)).trans hw87009_0), ((HB.out.cell (World.block_lt_of_cell? w _ hw87009_1)).trans hw87009_1), ((HB.out.cell (World.block_lt_of_cell? w _ hw87013_0)).trans hw87013_0), ((HB.out.cell (World.block_lt_of_cell? w _ hw87013_1)).trans hw87013_1)⟩ (fun hHeld => ?_); refine with_tabW papermillref04_ends.tab9 papermillref04_ends.bits9 (fun HT_ HW_ => ?_)
        generalize wr.drew = w16 at HO_5 HB hx87009_0 hx87009_1 hx87013_0 hx87013_1 hHeld ⊢
        refine pure_ (i := 0) (N := some 33) (v := ?_) (a' := ?_) #[true, false, false, false, false, false, false, false, false, false, false, false, false, false] rfl rfl (any_of HT_.out (by kernel_rfl)) (fun _ _ _ h => h) (Or.inl ⟨by rfl, ?_⟩) ?_ ?_
        rotate_left
        ·intro w'
         go_simp
         with_reducible rfl
        rotate_left
        ·simp only [Act.put, List.setIfInBounds_toArray, List.set_cons_zero, List.set_cons_succ, i64_w, i32_w]
         rfl
        refine pure_ (i := 1) (N := some 34) (v := ?_) (a' := ?_) #[true, true, false, false, false, false, false, false, false, false, false, false, false, false] rfl rfl (any_of HT_.out (by kernel_rfl)) (fun _ _ _ h => h) (Or.inl ⟨by rfl, ?_⟩) ?_ ?_
        rotate_left
        ·intro w'
         go_simp
         with_reducible rfl
        rotate_left
        ·simp only [Act.put, List.setIfInBounds_toArray, List.set_cons_zero, List.set_cons_succ, i64_w, i32_w]
         rfl
        refine pure_ (i := 2) (N := some 35) (v := ?_) (a' := ?_) #[true, true, true, false, false, false, false, false, false, false, false, false, false, false] rfl rfl (any_of HT_.out (by kernel_rfl)) (fun _ _ _ h => h) (Or.inl ⟨by rfl, ?_⟩) ?_ ?_
        rotate_left
        ·intro w'
         go_simp
         with_reducible rfl
        rotate_left
        ·simp only [Act.put, List.setIfInBounds_toArray, List.set_cons_zero, List.set_cons_succ, i64_w, i32_w]
         rfl
        refine pure_ (i := 3) (N := some 36) (v := ?_) (a' := ?_) #[true, true, true, true, false, false, false, false, false, false, false, false, false, false] rfl rfl (any_of HT_.out (by kernel_rfl)) (fun _ _ _ h => h) (Or.inl ⟨by rfl, ?_⟩) ?_ ?_
        rotate_left
        ·intro w'
         go_simp
         with_reducible rfl
        rotate_left
        ·simp only [Act.put, List.setIfInBounds_toArray, List.set_cons_zero, List.set_cons_succ, i64_w, i32_w]
         rfl
        refine pure_ (i := 4) (N := some 37) (v := ?_) (a' := ?_) #[true, true, true, true, true, false, false, false, false, false, false, false, false, false] rfl rfl (any_of HT_.out (by kernel_rfl)) (fun _ _ _ h => h) (Or.inl ⟨by rfl, ?_⟩) ?_ ?_
        rotate_left
        ·intro w'
         go_simp
         with_reducible rfl
        rotate_left
        ·simp only [Act.put, List.setIfInBounds_toArray, List.set_cons_zero, List.set_cons_succ, i64_w, i32_w]
         rfl
        refine pure_ (i := 7) (N := some 40) (v := ?_) (a' := ?_) #[true, true, true, true, true, false, false, true, false, false, false, false, false, false] rfl rfl (any_of HT_.out (by kernel_rfl)) (fun _ _ _ h => h) (Or.inl ⟨by rfl, ?_⟩) ?_ ?_
        rotate_left
        ·intro w'
         go_simp
         with_reducible rfl
        rotate_left
        ·simp only [Act.put, List.setIfInBounds_toArray, List.set_cons_zero, List.set_cons_succ, i64_w, i32_w]
         rfl
        refine pure_ (i := 8) (N := some 41) (v := ?_) (a' := ?_) #[true, true, true, true, true, false, false, true, true, false, false, false, false, false] rfl rfl (any_of HT_.out (by kernel_rfl)) (fun _ _ _ h => h) (Or.inl ⟨by rfl, ?_⟩) ?_ ?_
        rotate_left
        ·intro w'
         go_simp
         with_reducible rfl
        rotate_left
        ·simp only [Act.put, List.setIfInBounds_toArray, List.set_cons_zero, List.set_cons_succ, i64_w, i32_w]
         rfl
        refine pure_ (i := 9) (N := some 42) (v := ?_) (a' := ?_) #[true, true, true, true, true, false, false, true, true, true, false, false, false, false] rfl rfl (any_of HT_.out (by kernel_rfl)) (fun _ _ _ h => h) (Or.inl ⟨by rfl, ?_⟩) ?_ ?_
        rotate_left
        ·intro w'
         go_simp
         with_reducible rfl
        rotate_left
        ·simp only [Act.put, List.setIfInBounds_toArray, List.set_cons_zero, List.set_cons_succ, i64_w, i32_w]
         rfl
        refine pure_ (i := 10) (N := some 43) (v := ?_) (a' := ?_) #[true, true, true, true, true, false, false, true, true, true, true, false, false, false] rfl rfl (any_of HT_.out (by kernel_rfl)) (fun _ _ _ h => h) (Or.inl ⟨by rfl, ?_⟩) ?_ ?_
        rotate_left
        ·intro w'
         go_simp
         with_reducible rfl
        rotate_left
        ·simp only [Act.put, List.setIfInBounds_toArray, List.set_cons_zero, List.set_cons_succ, i64_w, i32_w]
         rfl
        refine take_ (i := 5) (N := some 38) (v := ?_) (a' := ?_) #[true, true, true, true, true, true, false, true, true, true, true, false, false, false] rfl rfl (take_ofW HT_.out HW_.out (by kernel_rfl)) (fun _ _ _ h => h) (Or.inl ⟨by rfl, ?_⟩) hHeld ?_ ?_
        rotate_left
        ·rintro w' ⟨s0, s1, s2, s3⟩
         go_simp
         with_reducible rfl
        rotate_left
        ·simp only [Act.put, List.setIfInBounds_toArray, List.set_cons_zero, List.set_cons_succ, i64_w, i32_w]
         rfl
        refine take_ (i := 11) (N := some 44) (v := ?_) (a' := ?_) #[true, true, true, true, true, true, false, true, true, true, true, true, false, false] rfl rfl (take_ofW HT_.out HW_.out (by kernel_rfl)) (fun _ _ _ h => h) (Or.inl ⟨by rfl, ?_⟩) hHeld ?_ ?_
        rotate_left
        ·rintro w' ⟨s0, s1, s2, s3⟩
         go_simp
         with_reducible rfl
        rotate_left
        ·simp only [Act.put, List.setIfInBounds_toArray, List.set_cons_zero, List.set_cons_succ, i64_w, i32_w]
         rfl
        refine one_ (i := 6) (N := some 39) #[true, true, true, true, true, true, true, true, true, true, true, true, false, false] rfl rfl (one_of HT_.out (by kernel_rfl)) (by decide) (fun K hK => ?_)
        refine goes_ Try.func99 (by kernel_rfl) rfl #[.slice Ao17 x5_2.length co17, .int .i64 ((rd_T55 l1 x7_2).f0)] (by rfl) rfl rfl (by (try simp only [List.map_toArray, List.map_cons, List.map_nil]); first | done | rfl | (simp only [List.length_drop, List.length_take]; rfl)) ?_
        with_reducible refine (papermillref04_with.calls k2 (fun k_ => some k_ = (.slice Ao17 x5_2.length co17 : Value).ownBlock) (.slice Ao17 x5_2.length co17) x5_2 ((rd_T55 l1 x7_2).f0) t87010 w _ ?side1 ?side2 A14.out).mono ?_
        (case side1 => repeat (first | exact HB.out | apply below_alloc | apply pw_below_drewN | apply below_drew1))
        (case side2 => exact Kd.R_tight rfl HO_5.out)
        rintro e w18 ⟨v87011, rfl, ho0, hb, hkp⟩
        refine ⟨_, rfl, ?_⟩
        have n0_ := Aside0.mk (Kd.R_mono (ok' := fun k_ => True) ho0 (fun k_ hk_ => trivial))
        have n1_ := Aside0.mk (hb)
        clear HB
        clear HO_5
        have HO87012 := n0_
        have HB := n1_
        clear n0_ n1_
        (try clear hb)
        (try clear hkp)
        (try clear ho0)
        obtain ⟨Ao19, co19, eo19⟩ := Kd.R_slice HO87012.out
        (first | subst eo19 | (injection eo19 with f1_ f2_ f3_; have f4_ := f1_.symm; have f5_ := f3_.symm; clear f1_ f2_ f3_; subst f4_; subst f5_))
        refine hK.out _ _ ⟨((HB.out.cell (World.block_lt_of_cell? w _ hw87009_0)).trans hw87009_0), ((HB.out.cell (World.block_lt_of_cell? w _ hw87009_1)).trans hw87009_1), ((HB.out.cell (World.block_lt_of_cell? w _ hw87013_0)).trans hw87013_0), ((HB.out.cell (World.block_lt_of_cell? w _ hw87013_1)).trans hw87013_1)⟩ (fun hHeld => ?_)
        clear hK K
        refine norm_ (a' := ?_) ?_ ?_
        rotate_left
        ·show Act.put _ (some 39) _ = _
         simp only [Act.put, List.setIfInBounds_toArray, List.set_cons_zero, List.set_cons_succ, i64_w, i32_w]
         rfl
        refine one_ (i := 12) (N := some 45) #[true, true, true, true, true, true, true, true, true, true, true, true, true, false] rfl rfl (one_of HT_.out (by kernel_rfl)) (by decide) (fun K hK => ?_)
        refine goes_ Try.func99 (by kernel_rfl) rfl #[.slice Ao19 t87010.length co19, .int .i64 ((rd_T55 l1 x7_2).f1)] (by rfl) rfl rfl (by (try simp only [List.map_toArray, List.map_cons, List.map_nil]); first | done | rfl | (simp only [List.length_drop, List.length_take]; rfl)) ?_
        with_reducible refine (papermillref04_with.calls k2 (fun k_ => some k_ = (.slice Ao19 t87010.length co19 : Value).ownBlock) (.slice Ao19 t87010.length co19) t87010 ((rd_T55 l1 x7_2).f1) t87014 w _ ?side1 ?side2 A15.out).mono ?_
        (case side1 => repeat (first | exact HB.out | apply below_alloc | apply pw_below_drewN | apply below_drew1))
        (case side2 => exact Kd.R_tight rfl HO87012.out)
        rintro e w20 ⟨v87015, rfl, ho0, hb, hkp⟩
        refine ⟨_, rfl, ?_⟩
        have n0_ := Aside0.mk (Kd.R_mono (ok' := fun k_ => True) ho0 (fun k_ hk_ => trivial))
        have n1_ := Aside0.mk (hb)
        clear HB
        clear HO87012
        have HO87016 := n0_
        have HB := n1_
        clear n0_ n1_
        (try clear hb)
        (try clear hkp)
        (try clear ho0)
        refine hK.out _ _ ⟨((HB.out.cell (World.block_lt_of_cell? w _ hw87009_0)).trans hw87009_0), ((HB.out.cell (World.block_lt_of_cell? w _ hw87009_1)).trans hw87009_1), ((HB.out.cell (World.block_lt_of_cell? w _ hw87013_0)).trans hw87013_0), ((HB.out.cell (World.block_lt_of_cell? w _ hw87013_1)).trans hw87013_1)⟩ (fun hHeld => ?_)
        clear hK K
        refine norm_ (a' := ?_) ?_ ?_
        rotate_left
        ·show Act.put _ (some 45) _ = _
         simp only [Act.put, List.setIfInBounds_toArray, List.set_cons_zero, List.set_cons_succ, i64_w, i32_w]
         rfl
        refine pure_ (i := 13) (N := some 5) (v := ?_) (a' := ?_) #[true, true, true, true, true, true, true, true, true, true, true, true, true, true] rfl rfl (any_of HT_.out (by kernel_rfl)) (fun _ _ _ h => h) (Or.inl ⟨by rfl, ?_⟩) ?_ ?_
        rotate_left
        ·intro w'
         go_simp
         with_reducible rfl
        rotate_left
        ·simp only [Act.put, List.setIfInBounds_toArray, List.set_cons_zero, List.set_cons_succ, i64_w, i32_w]
         rfl
        refine done_ (done_of HT_.out (by kernel_rfl)) ?_
        try go_wp2
        go_roundg k2
        case measure => have := HK1.out; have := HK2.out; omega
        case rel => exact ⟨(t87014), (wrap64 (x7_2 + 1)), (by first | rfl | (simp; done) | (simp [*]; done)), H', ⟨by have := HK1.out; have := HK2.out; omega⟩, ⟨HO87016.out⟩, ⟨by repeat (first | exact HB.out | apply below_alloc | apply pw_below_drewN | apply below_drew1)⟩⟩
       ·rw [if_neg c13] at H
        exact absurd H (by simp)
      ·rw [if_neg c12] at H
       have c12b0 : decide (x7_2 < (l1.length : Int)) = false := decide_eq_false c12
       clear c12
       obtain rfl := Option.some.inj H
       go_wp2
       go_ret
       exact ⟨_, by first | rfl | (simp [errW_none, errW_some] <;> rfl) | (simp [*, errW_none, errW_some] <;> rfl), by exact HO_5.out, by repeat (first | exact HB.out | apply below_alloc | apply pw_below_drewN | apply below_drew1)⟩

end Go.Proofs.Ytalpegglbfobiaa.G

namespace Go.Proofs.Ytalpegglbfobiaa.G
open Go.RowKit Go.Proofs.YtalpegglbfobiaaW.PrintWords Go.Proofs.YtalpegglbfobiaaW.PrintLast Go.Proofs.YtalpegglbfobiaaW.PrintMore
attribute [local go_sem] max2_int min2_int max_two min_two max_three min_three max_four min_four   -- for this text's walks alone
set_option linter.unusedVariables false
set_option linter.unusedSimpArgs false

def papermillref04_Has.l0 : Nat → List (S55) → Int → Int → Option (Bool)
 | 0, _, _, _ => none
 | k + 1, x0, x1, x5 => if x5 < (x0.length : Int) then (if 0 ≤ x5 then (if ((rd_T55 x0 x5).f0) ≤ x1 then (if x1 < ((rd_T55 x0 x5).f1) then (some true) else (papermillref04_Has.l0 k x0 x1 (wrap64 (x5 + 1)))) else (papermillref04_Has.l0 k x0 x1 (wrap64 (x5 + 1)))) else (none)) else (some false)
def papermillref04_Has.f (k : Nat) (l0 : List (S55)) (a1 : Int) : Option (Bool) := papermillref04_Has.l0 k l0 a1 0
set_option maxHeartbeats 8000000 in
set_option maxRecDepth 100000 in
theorem papermillref04_Has.calls (k : Nat) (A0 : Option Addr) (c0 : Nat) (l0 : List (S55)) (a1 : Int) (r : Bool) (w : World) (hr0 : Kd.C k55 w A0 l0.length l0) (hc0 : l0.length ≤ c0) (h : papermillref04_Has.f k l0 a1 = some r) :
  Calls Try.prog 29 #[.slice A0 l0.length c0, .int .i64 a1] w fun e w' => e = .returned (.bool r) ∧ Drawn0 w w' := by
 have HR0 := Aside0.mk hr0
 have HC0 := Aside0.mk hc0
 clear hr0 hc0
 have H : (papermillref04_Has.l0 k l0 a1 0) = some r := h
 clear h
 have H' := Aside0.mk H
 clear H
 go_enter Try.func29, Try.ntmps29
 go_wp2
 go_loopg [5] k (fun kq v5 w' => ∃ (x5_1 : Int), v5 = .int .i64 x5_1 ∧ Aside0 (papermillref04_Has.l0 kq l0 a1 x5_1 = some r) ∧ Aside0 (kq ≤ k) ∧ Drawn0 w w')
 case atStart => exact ⟨(0), (by first | rfl | (simp; done) | (simp [*]; done)), H', ⟨Nat.le_refl _⟩, by repeat (first | exact Drawn0.refl _ | apply Drawn0.step)⟩
 case round =>
  clear H'
  try clear c2
  try clear p2
  obtain ⟨x5_1, rfl, HA, HK1, ⟨m1, rfl⟩⟩ := hrel
  cases gk with
  | zero => exact absurd HA.out (by simp [papermillref04_Has.l0])
  | succ k1 =>
   have H := HA.out
   clear HA
   simp only [papermillref04_Has.l0] at H
   by_cases c3 : x5_1 < (l0.length : Int)
   ·rw [if_pos c3] at H
    have c3b0 : decide (x5_1 < (l0.length : Int)) = true := decide_eq_true c3
    clear c3
    by_cases c4 : 0 ≤ x5_1
    ·rw [if_pos c4] at H
     have c4b0 : decide (0 ≤ x5_1) = true := decide_eq_true c4
     clear c4
     by_cases c5 : ((rd_T55 l0 x5_1).f0) ≤ a1
     ·rw [if_pos c5] at H
      have c5b0 : decide (((rd_T55 l0 x5_1).f0) ≤ a1) = true := decide_eq_true c5
      clear c5
      by_cases c6 : a1 < ((rd_T55 l0 x5_1).f1)
      ·rw [if_pos c6] at H
       have c6b0 : decide (a1 < ((rd_T55 l0 x5_1).f1)) = true := decide_eq_true c6
       clear c6
       obtain rfl := Option.some.inj H
       have p30001 : 0 ≤ (x5_1 : Int) := of_decide_eq_true (by assumption)
       have q30001 : x5_1 < (l0.length : Int) := of_decide_eq_true (by assumption)
       obtain ⟨ad30001, e30001, hx30001_0, hx30001_1⟩ := at_T55 HR0.out x5_1 p30001 q30001
       cases e30001
       replace p30001 := eq_true p30001
       replace q30001 := eq_true q30001
       have p30002 : 0 ≤ (x5_1 : Int) := of_decide_eq_true (by assumption)
       have q30002 : x5_1 < (l0.length : Int) := of_decide_eq_true (by assumption)
       obtain ⟨ad30002, e30002, hx30002_0, hx30002_1⟩ := at_T55 HR0.out x5_1 p30002 q30002
       obtain rfl : ad30001 = ad30002 := (by injection e30002)
       replace p30002 := eq_true p30002
       replace q30002 := eq_true q30002
       go_wp2
       go_ret
       exact ⟨by first | rfl | (simp; done) | (simp [*]; done), by repeat (first | exact Drawn0.refl _ | apply Drawn0.step)⟩
      ·rw [if_neg c6] at H
       have c6b0 : decide (a1 < ((rd_T55 l0 x5_1).f1)) = false := decide_eq_false c6
       clear c6
       have H' := Aside0.mk H
       clear H
       have p30001 : 0 ≤ (x5_1 : Int) := of_decide_eq_true (by assumption)
       have q30001 : x5_1 < (l0.length : Int) := of_decide_eq_true (by assumption)
       obtain ⟨ad30001, e30001, hx30001_0, hx30001_1⟩ := at_T55 HR0.out x5_1 p30001 q30001
       cases e30001
       replace p30001 := eq_true p30001
       replace q30001 := eq_true q30001
       have p30002 : 0 ≤ (x5_1 : Int) := of_decide_eq_true (by assumption)
       have q30002 : x5_1 < (l0.length : Int) := of_decide_eq_true (by assumption)
       obtain ⟨ad30002, e30002, hx30002_0, hx30002_1⟩ := at_T55 HR0.out x5_1 p30002 q30002
       obtain rfl : ad30001 = ad30002 := (by injection e30002)
       replace p30002 := eq_true p30002
       replace q30002 := eq_true q30002
       go_wp2
       go_roundg k1
       case measure => have := HK1.out; omega
       case rel => exact ⟨(wrap64 (x5_1 + 1)), (by first | rfl | (simp; done) | (simp [*]; done)), H', ⟨by have := HK1.out; omega⟩, by repeat (first | exact Drawn0.refl _ | apply Drawn0.step)⟩
     ·rw [if_neg c5] at H
      have c5b0 : decide (((rd_T55 l0 x5_1).f0) ≤ a1) = false := decide_eq_false c5
      clear c5
      have H' := Aside0.mk H
      clear H
      have p30001 : 0 ≤ (x5_1 : Int) := of_decide_eq_true (by assumption)
      have q30001 : x5_1 < (l0.length : Int) := of_decide_eq_true (by assumption)
      obtain ⟨ad30001, e30001, hx30001_0, hx30001_1⟩ := at_T55 HR0.out x5_1 p30001 q30001
      cases e30001
      replace p30001 := eq_true p30001
      replace q30001 := eq_true q30001
      go_wp2
      go_roundg k1
      case measure => have := HK1.out; omega
      case rel => exact ⟨(wrap64 (x5_1 + 1)), (by first | rfl | (simp; done) | (simp [*]; done)), H', ⟨by have := HK1.out; omega⟩, by repeat (first | exact Drawn0.refl _ | apply Drawn0.step)⟩
    ·rw [if_neg c4] at H
     exact absurd H (by simp)
   ·rw [if_neg c3] at H
    have c3b0 : decide (x5_1 < (l0.length : Int)) = false := decide_eq_false c3
    clear c3
    obtain rfl := Option.some.inj H
    go_wp2
    go_ret
    exact ⟨by first | rfl | (simp; done) | (simp [*]; done), by repeat (first | exact Drawn0.refl _ | apply Drawn0.step)⟩

end Go.Proofs.Ytalpegglbfobiaa.G

namespace Go.Proofs.Ytalpegglbfobiaa.G
open Go.RowKit Go.Proofs.YtalpegglbfobiaaW.PrintWords Go.Proofs.YtalpegglbfobiaaW.PrintLast Go.Proofs.YtalpegglbfobiaaW.PrintMore
set_option linter.unusedVariables false
set_option linter.unusedSimpArgs false
theorem with_l0 (l : List Int) (n : Int) (hl : l.length < 1000000) : ∀ (d i : Nat), l.length - i = d → i ≤ l.length → Ends (fun k => papermillref04_with.l0 k l n (i : Int)) (l.take i ++ withOf (l.drop i) n) := by
 intro d
 induction d with
 | zero =>
  intro i hd hi
  rw [List.drop_of_length_le (by omega)]
  refine Ends.succ ?_
  simp only [papermillref04_with.l0, Option.bind_some, Int.toNat_natCast, List.nil_append]
  refine Ends.neg (by omega) (Ends.pos (by omega) (Ends.pos (by omega) (Ends.pos (by simp only [List.length_nil, List.length_take]; omega) (Ends.pos (by simp only [List.length_append, List.length_take]; omega) (Ends.pos (by simp only [List.length_append, List.length_take, List.length_drop, List.length_cons, List.length_nil]; omega) ?_)))))
  rw [List.drop_of_length_le (l := l) (i := i) (by omega)]
  simpa [withOf] using Ends.ret _
 | succ d ih =>
  intro i hd hi
  have hlen := List.length_drop (i := i) (l := l)
  rw [dropI l i (by omega)] at hlen
  rw [dropI l i (by omega)]
  refine Ends.succ ?_
  simp only [papermillref04_with.l0, Option.bind_some, Int.toNat_natCast, List.nil_append, wrap_nat i (by omega)]
  refine Ends.pos (by omega) (Ends.pos (by omega) ?_)
  by_cases h1 : rd l i < n
  ·refine Ends.pos h1 ?_
   have := ih (i + 1) (by omega) (by omega)
   rw [List.take_succ_eq_append_getElem (by omega), ← rdI l i (by omega)] at this
   simpa [withOf, h1] using this
  ·refine Ends.neg h1 ?_
   by_cases h2 : rd l i = n
   ·refine Ends.pos h2 ?_
    have e : l.take i ++ withOf (rd l i :: l.drop (i + 1)) n = l := by
     rw [withOf, if_neg h1, if_pos h2, ← dropI l i (by omega), List.take_append_drop]
    rw [e]; exact Ends.ret _
   ·refine Ends.neg h2 (Ends.pos (by omega) (Ends.pos (by simp only [List.length_nil, List.length_take]; omega) (Ends.pos (by simp only [List.length_take]; omega) (Ends.pos (by simp only [List.length_append, List.length_take, List.length_drop, List.length_cons, List.length_nil]; omega) ?_))))
    rw [withOf, if_neg h1, if_neg h2, ← dropI l i (by omega)]
    simpa using Ends.ret _
theorem with_ends (l : List Int) (n : Int) (hl : l.length < 1000000) : Ends (fun k => papermillref04_with.f k l n) (withOf l n) := by
 simpa [papermillref04_with.f] using with_l0 l n hl l.length 0 rfl (Nat.zero_le _)
theorem ends_l1 (b : List S55) (hb : b.length ≤ 256) : ∀ (d i : Nat) (o : List Int), b.length - i = d → i ≤ b.length → o.length + 2 * d < 1000000 → Ends (fun k => papermillref04_ends.l1 k b o (i : Int)) ((b.drop i).foldl endStep o) := by
 intro d
 induction d with
 | zero =>
  intro i o hd hi ho
  rw [List.drop_of_length_le (by omega)]
  refine Ends.succ ?_
  simp only [papermillref04_ends.l1]
  exact Ends.neg (by omega) (Ends.ret _)
 | succ d ih =>
  intro i o hd hi ho
  rw [drop36 b i (by omega), List.foldl_cons]
  refine Ends.succ ?_
  simp only [papermillref04_ends.l1, wrap_nat i (by omega)]
  have h1 := withOf_len o (rd_T55 b i).f0
  have h2 := endStep_len o (rd_T55 b i)
  exact Ends.pos (by omega) (Ends.pos (by omega) (Ends.bind (with_ends _ _ (by omega)) (Ends.bind (with_ends _ _ (by omega)) (ih (i + 1) _ (by omega) (by omega) (by show (endStep o (rd_T55 b i)).length + _ < _; omega)))))
theorem ends_l0 (a b : List S55) (ha : a.length ≤ 256) (hb : b.length ≤ 256) : ∀ (d i : Nat) (o : List Int), a.length - i = d → i ≤ a.length → o.length + 2 * d < 900000 → Ends (fun k => papermillref04_ends.l0 k a b o (i : Int)) (b.foldl endStep ((a.drop i).foldl endStep o)) := by
 intro d
 induction d with
 | zero =>
  intro i o hd hi ho
  rw [List.drop_of_length_le (by omega)]
  refine Ends.succ ?_
  simp only [papermillref04_ends.l0]
  exact Ends.neg (by omega) (by simpa using ends_l1 b hb b.length 0 o rfl (Nat.zero_le _) (by omega))
 | succ d ih =>
  intro i o hd hi ho
  rw [drop36 a i (by omega), List.foldl_cons]
  refine Ends.succ ?_
  simp only [papermillref04_ends.l0, wrap_nat i (by omega)]
  have h1 := withOf_len o (rd_T55 a i).f0
  have h2 := endStep_len o (rd_T55 a i)
  exact Ends.pos (by omega) (Ends.pos (by omega) (Ends.bind (with_ends _ _ (by omega)) (Ends.bind (with_ends _ _ (by omega)) (ih (i + 1) _ (by omega) (by omega) (by show (endStep o (rd_T55 a i)).length + _ < _; omega)))))
theorem ends_ends (a b : List S55) (ha : a.length ≤ 256) (hb : b.length ≤ 256) : Ends (fun k => papermillref04_ends.f k a b) (endsOf a b) := by
 simpa [papermillref04_ends.f, endsOf] using ends_l0 a b ha hb a.length 0 [] rfl (Nat.zero_le _) (by simp; omega)
theorem has_l0 (l : List S55) (x : Int) (hl : l.length < 1000000) : ∀ (d i : Nat), l.length - i = d → i ≤ l.length → Ends (fun k => papermillref04_Has.l0 k l x (i : Int)) (hasOf (l.drop i) x) := by
 intro d
 induction d with
 | zero =>
  intro i hd hi
  rw [List.drop_of_length_le (by omega)]
  refine Ends.succ ?_
  simp only [papermillref04_Has.l0]
  exact Ends.neg (by omega) (Ends.ret _)
 | succ d ih =>
  intro i hd hi
  have := ih (i + 1) (by omega) (by omega)
  rw [drop36 l i (by omega)]
  refine Ends.succ ?_
  simp only [papermillref04_Has.l0, wrap_nat i (by omega)]
  refine Ends.pos (by omega) (Ends.pos (by omega) ?_)
  by_cases h1 : (rd_T55 l i).f0 ≤ x
  ·refine Ends.pos h1 ?_
   by_cases h2 : x < (rd_T55 l i).f1
   ·refine Ends.pos h2 ?_
    simpa [hasOf, h1, h2] using Ends.ret true
   ·refine Ends.neg h2 ?_
    simpa [hasOf, h1, h2] using this
  ·refine Ends.neg h1 ?_
   simpa [hasOf, h1] using this
theorem has_ends (l : List S55) (x : Int) (hl : l.length < 1000000) : Ends (fun k => papermillref04_Has.f k l x) (hasOf l x) := by
 simpa [papermillref04_Has.f] using has_l0 l x hl l.length 0 rfl (Nat.zero_le _)
end Go.Proofs.Ytalpegglbfobiaa.G

namespace Go.Proofs.Ytalpegglbfobiaa.G
open Go.RowKit Go.Proofs.YtalpegglbfobiaaW.PrintWords Go.Proofs.YtalpegglbfobiaaW.PrintLast Go.Proofs.YtalpegglbfobiaaW.PrintMore
set_option linter.unusedVariables false
set_option linter.unusedSimpArgs false
end Go.Proofs.Ytalpegglbfobiaa.G

namespace Go.Proofs.Ytalpegglbfobiaa.G
open Go.RowKit Go.Proofs.YtalpegglbfobiaaW.PrintWords Go.Proofs.YtalpegglbfobiaaW.PrintLast Go.Proofs.YtalpegglbfobiaaW.PrintMore
set_option linter.unusedVariables false
set_option linter.unusedSimpArgs false
def papermillref04_combine.f (l0 l1 : List S55) (a2 : Int) : Option (List S55) := if l0.length ≤ 256 ∧ l1.length ≤ 256 ∧ (a2 = 0 ∨ a2 = 1 ∨ a2 = 2) then some (combOf l0 l1 a2) else none
theorem comb_next (a b : List S55) (w : Int) (cuts : List Int) (i : Nat) (hi : i + 1 < cuts.length) (O r : List S55) (h : combGo a b w O (cuts.drop i) = r) :
  combGo a b w (if skips w (hasOf a (rd cuts i)) (hasOf b (rd cuts i)) = true then O else push O (rd cuts i) (rd cuts (i + 1 : Nat))) (cuts.drop (i + 1)) = r := by
 rw [dropI cuts i (by omega), dropI cuts (i + 1) hi, combGo] at h
 rw [dropI cuts (i + 1) hi]
 exact h
theorem push_app (O : List S55) (x y : Int) (h : ∀ m : Nat, O.length = m + 1 → (rd_T55 O (m : Int)).f1 ≠ x) : push O x y = O ++ [⟨x, y⟩] := by
 by_cases h0 : O.length = 0
 ·rw [List.length_eq_zero_iff.1 h0]; rfl
 ·have := h (O.length - 1) (by omega)
  simp [push, getLast_rd O h0, this]
theorem push_ext (O : List S55) (x y : Int) (m : Nat) (hm : O.length = m + 1) (t : S55) (ht : rd_T55 O (m : Int) = t) (h : t.f1 = x) : push O x y = O.set m ⟨t.f0, y⟩ := by
 have h0 : O.length ≠ 0 := by omega
 have e : O.length - 1 = m := by omega
 have h1 := getLast_rd O h0
 have h2 := dropLast_set O h0 ⟨t.f0, y⟩
 rw [e, ht] at h1
 rw [e] at h2
 rw [h2]
 simp [push, h1, h]
def papermillref04_combine.T11 : Bool × List (List Nat × List Nat) := (true, [([], []), ([], []), ([], []), ([1, 2], [1, 2]), ([3], [3]), ([], []), ([], []), ([6], [6]), ([5, 7], [5, 7]), ([8], [8]), ([4, 9], [4, 9]), ([10], [10]), ([0, 11], [0, 11]), ([12, 12, 0, 1, 2, 3, 4, 5, 6, 7, 8, 9, 10, 11, 12], [0, 12])])
def papermillref04_combine.B11 : List Nat := [0, 0, 0, 6, 14, 0, 0, 64, 224, 480, 1022, 2046, 4095, 8191]
theorem papermillref04_combine.tab11 : rtab .any (opsOf Try.f79 11) = papermillref04_combine.T11 := by kernel_rfl
theorem papermillref04_combine.bits11 : waitsOk papermillref04_combine.T11.2 papermillref04_combine.B11 = true := by kernel_rfl
theorem kspn_sz : (k55).sz = 2 := rfl
set_option maxRecDepth 100000 in
set_option maxHeartbeats 16000000 in
theorem comb_main (A0 : Option Addr) (c0 : Nat) (a : List S55) (A1 : Option Addr) (c1 : Nat) (b : List S55) (y : Int) (w : World) (hr0 : Kd.C k55 w A0 a.length a) (hc0 : a.length ≤ c0) (hr1 : Kd.C k55 w A1 b.length b) (hc1 : b.length ≤ c1) (ha : a.length ≤ 256) (hb : b.length ≤ 256) (hy : y = 0 ∨ y = 1 ∨ y = 2) :
  Calls Try.prog 79 #[.slice A0 a.length c0, .slice A1 b.length c1, .int .i64 y] w fun e w' => ∃ v : Value, e = .returned v ∧ Kd.R k55 55 w' w.heap.size (fun _ => True) v (combOf a b y) ∧ Below w.heap.size w w' := by
 have HR0 := Aside0.mk hr0
 have HC0 := Aside0.mk hc0
 have HR1 := Aside0.mk hr1
 have HC1 := Aside0.mk hc1
 obtain ⟨ke, hke⟩ := (ends_ends a b ha hb).get
 have HE := Aside0.mk hke
 obtain ⟨cuts, hcuts⟩ : ∃ z, z = endsOf a b := ⟨_, rfl⟩
 have hlc := endsOf_len a b
 rw [← hcuts] at hlc HE
 have HRES := Aside0.mk (show combGo a b y [] cuts = combOf a b y by rw [hcuts]; rfl)
 have HL := Aside0.mk (show cuts.length ≤ 2000 by omega)
 generalize combOf a b y = RES at *
 have HHA := Aside0.mk (fun x => (has_ends a x (by omega)).get)
 have HHB := Aside0.mk (fun x => (has_ends b x (by omega)).get)
 clear hr0 hc0 hr1 hc1 hke hcuts hlc ha hb
 go_enter Try.func79, Try.ntmps79
 go_wp2_with (go_at_call 86; (with_reducible refine (papermillref04_ends.calls ke A0 c0 a A1 c1 b cuts _ HR0.out HC0.out HR1.out HC1.out HE.out).mono ?_); rintro e w1 ⟨v1, rfl, ho, hb1⟩; obtain ⟨Ac, cc, rfl⟩ := Kd.R_slice ho; have HCU := Aside0.mk (Kd.R_reads' ho).2.2; have HB1 := Aside0.mk hb1; clear ho hb1)
 have HR10 := Aside0.mk (Kd.C_below HR0.out HB1.out)
 have HR11 := Aside0.mk (Kd.C_below HR1.out HB1.out)
 go_loopw [8, 9] (fun v i wr => ∃ (kk : Nat) (O : List S55), i = .int .i64 kk ∧ Aside0 (kk ≤ cuts.length) ∧ Aside0 (O.length ≤ kk) ∧ Aside0 (combGo a b y O (cuts.drop kk) = RES) ∧ Aside0 (Kd.R k55 55 wr w1.heap.size (fun _ => True) v O) ∧ Aside0 (Below w1.heap.size w1 wr))
  (fun _ i _ => cuts.length - (intOf i).toNat)
 case atStart => exact ⟨0, [], rfl, ⟨Nat.zero_le _⟩, ⟨Nat.zero_le _⟩, ⟨by simpa using HRES.out⟩, ⟨Kd.R_nil _ _ _ _ _⟩, ⟨Below.refl _ _⟩⟩
 case round =>
  obtain ⟨kk, O, rfl, HK, HOL, HGO, HO, HB⟩ := hrel
  have hlc := HL.out
  have hkl := HK.out
  have hol := HOL.out
  have hwk : wrap64 ((kk : Int) + 1) = ((kk + 1 : Nat) : Int) := wrap_nat kk (by omega)
  have hwk1 : IntKind.i64.wrap ((kk : Int) + 1) = ((kk + 1 : Nat) : Int) := by rw [i64_w]; exact hwk
  by_cases hk : kk + 1 < cuts.length
  ·have hd0 : decide (((kk + 1 : Nat) : Int) < (cuts.length : Int)) = true := decide_eq_true (by omega)
   have hd1 : decide (kk + 1 < cuts.length) = true := decide_eq_true hk
   have hkA : (kk : Int) < (cuts.length : Int) := by omega
   have hkB : ((kk + 1 : Nat) : Int) < (cuts.length : Int) := by omega
   have hkC : ((kk : Int) + 1 < (cuts.length : Int)) = True := eq_true (by omega)
   have hkD : (0 ≤ (kk : Int) + 1) = True := eq_true (by omega)
   have hkE : ((kk : Int) + 1).toNat = kk + 1 := by omega
   obtain ⟨ad, rfl, hz0⟩ := Kd.at_int (Kd.C_below HCU.out HB.out) (kk : Int) (by omega) (by omega)
   obtain ⟨ad', ead, hz1⟩ := Kd.at_int (Kd.C_below HCU.out HB.out) ((kk + 1 : Nat) : Int) (by omega) (by omega)
   obtain rfl := Option.some.inj ead
   simp only [Int.toNat_natCast] at hz0 hz1
   have HN := Aside0.mk (comb_next a b y cuts kk hk O RES HGO.out)
   obtain ⟨k1, hk1⟩ := HHA.out (rd cuts kk)
   obtain ⟨k2, hk2⟩ := HHB.out (rd cuts kk)
   have CA := Aside0.mk (fun n => (papermillref04_Has.calls k1 A0 c0 a (rd cuts kk) _ _ (Kd.C_drewN (Kd.C_below HR10.out HB.out) n) HC0.out hk1).mono fun e w' h => (⟨h.1, h.2.out⟩ : _ ∧ ∃ m, w' = (wr.drewN n).drewN m))
   have CB := Aside0.mk (fun n => (papermillref04_Has.calls k2 A1 c1 b (rd cuts kk) _ _ (Kd.C_drewN (Kd.C_below HR11.out HB.out) n) HC1.out hk2).mono fun e w' h => (⟨h.1, h.2.out⟩ : _ ∧ ∃ m, w' = (wr.drewN n).drewN m))
   clear hk1 hk2
   have HZ := Aside0.mk (show ∀ W, Below w1.heap.size w1 W → W.cell? (ad.add kk) = some (.int .i64 (rd cuts kk)) ∧ W.cell? (ad.add (kk + 1)) = some (.int .i64 (rd cuts ((kk + 1 : Nat) : Int))) from fun W h => by
    obtain ⟨x1, e1, h1⟩ := Kd.at_int (Kd.C_below HCU.out h) (kk : Int) (by omega) (by omega)
    obtain ⟨x2, e2, h2⟩ := Kd.at_int (Kd.C_below HCU.out h) ((kk + 1 : Nat) : Int) (by omega) (by omega)
    obtain rfl := Option.some.inj e1
    obtain rfl := Option.some.inj e2
    simp only [Int.toNat_natCast] at h1 h2
    exact ⟨h1, h2⟩)
   generalize rd cuts (kk : Int) = X at *
   generalize rd cuts ((kk + 1 : Nat) : Int) = Y at *
   generalize hasOf a X = p at *
   generalize hasOf b X = q at *
   obtain ⟨A7, c7, e7⟩ := Kd.R_slice HO.out
   subst e7
   go_wp2
   go_quiet (first | (go_at_call 29; with_reducible exact Calls.quiet_of (CA.out _)) | (go_at_call 29; with_reducible exact Calls.quiet_of (CB.out _)))
   have HB5 := Aside0.mk (pw_below_drewN HB.out nq)
   have HO5 := Aside0.mk (Kd.R_drewN HO.out nq)
   clear CA CB HB HO hz0 hz1
   generalize wr.drewN nq = w5 at *
   obtain ⟨hz0, hz1⟩ := HZ.out w5 HB5.out
   by_cases hsk : skips y p q = true
   ·have HN1 := Aside0.mk (show combGo a b y O (cuts.drop (kk + 1)) = RES by have := HN.out; rwa [if_pos hsk] at this)
    clear HN
    rcases hy with rfl | rfl | rfl <;> cases p <;> cases q <;> first | exact absurd hsk (by decide) | skip
    all_goals
     clear hsk
     go_wp2
     go_roundw
     case rel => exact ⟨kk + 1, O, by go_num, ⟨by omega⟩, ⟨by omega⟩, HN1, HO5, HB5⟩
     case measure => simp [intOf]; omega
   ·have HN1 := Aside0.mk (show combGo a b y (push O X Y) (cuts.drop (kk + 1)) = RES by have := HN.out; rwa [if_neg hsk] at this)
    clear HN
    by_cases hjo : ∃ (m : Nat) (t : S55), O.length = m + 1 ∧ rd_T55 O (m : Int) = t ∧ t.f1 = X
    ·obtain ⟨m, t, hm, ht, hx⟩ := hjo
     rw [push_ext O X Y m hm t ht hx] at HN1
     obtain ⟨g7, c7', eo, gb, _, _, _⟩ := Kd.R_form HO5.out (by omega)
     injection eo with ea en ec
     subst ea
     have GB := Aside0.mk gb
     clear gb en ec
     obtain ⟨ad7, e7a, hy0, hy1⟩ := at_T55 (Kd.R_reads' HO5.out).2.2 (m : Int) (by omega) (by omega)
     injection e7a with e7a
     subst e7a
     simp only [add_plain, Int.toNat_natCast] at hy0 hy1
     rw [ht] at hy0 hy1
     have hjb : (t.f1 == X) = true := by simpa using hx
     have hw1 : IntKind.i64.wrap (m : Int) = (m : Int) := by rw [i64_w]; unfold wrap64; omega
     have hm0 : 0 ≤ (m : Int) := by omega
     have hmt : ((m : Int)).toNat = m := by omega
     have hmm : ((m : Int) < (m : Int) + 1) = True := eq_true (by omega)
     rw [hm] at HO5
     have HT := Aside0.mk ht
     clear ht hx
     rw [hm]
     rcases hy with rfl | rfl | rfl <;> cases p <;> cases q <;> first | exact absurd rfl hsk | skip
     all_goals
      clear hsk
      go_wp2
      go_quiet (fail)
      have HB6 := Aside0.mk (pw_below_drewN HB5.out nq)
      have HO6 := Aside0.mk (Kd.R_drewN HO5.out nq)
      clear HB5 HO5 hz0 hz1 hy0 hy1
      generalize w5.drewN nq = w6 at *
      obtain ⟨hz0, hz1⟩ := HZ.out w6 HB6.out
      have hz2 : w6.cell? ⟨ad.block, ad.off + (kk + 1), none⟩ = some (.int .i64 Y) := hz1
      obtain ⟨ad7, e7a, hy0, hy1⟩ := at_T55 (Kd.R_reads' HO6.out).2.2 (m : Int) (by omega) (by omega)
      injection e7a with e7a
      subst e7a
      simp only [add_plain, Int.toNat_natCast] at hy0 hy1
      rw [HT.out] at hy0 hy1
      obtain ⟨ce, hcl, hM, hcc, hfr⟩ := Kd.R_elem HO6.out z55 (m : Int) (by omega) (by omega)
      obtain rfl := k55_openM hM
      have hf1 : w6.frozen? ⟨g7, m * 2 + 1, none⟩ = false := by have := hfr 1; rwa [hmt] at this
      have HP := Aside0.mk (Kd.R_seg HO6.out (m : Int) (by omega) (by omega) (seg := [.int .i64 Y]) (j := 1) hcl hcc (show 2 ≤ 2 from by decide) (x' := (⟨t.f0, Y⟩ : S55)) (by rw [show O.getD (m : Int).toNat z55 = t from HT.out]; exact k55_mkM _ _ _ ⟨t.f0, Y⟩) (fun _ hk => hk))
      clear hcl hcc hfr hM
      go_wp2_with ((with_reducible refine gate_store (t := 3) (p := 92) rfl ?_); refine store_event (t := 3) (p := 92) (v := ?vo) (w1 := w6.setCell ⟨g7, m * 2 + 1, none⟩ (.int .i64 Y)) ?hg ?ho ?hn ?hr ?_; (case ho => rfl); (case hg => rfl); (case hn => rfl); (case hr => first | (go_simp; done) | (go_simp; rfl)); intro w7 hw; have HO7 := Aside0.mk (show Kd.R k55 55 w7 w1.heap.size (fun _ => True) (.slice (some ⟨g7, 0, none⟩) (m + 1) c7) (O.set m ⟨t.f0, Y⟩) from by rw [hw]; have := HP.out.1; rwa [hmt] at this); have HB7 := Aside0.mk (show Below w1.heap.size w1 w7 from by rw [hw]; exact below_set HB6.out GB.out); clear hw)
      go_roundw
      case rel => exact ⟨kk + 1, O.set m ⟨t.f0, Y⟩, by go_num, ⟨by omega⟩, ⟨by rw [List.length_set]; omega⟩, HN1, HO7, HB7⟩
      case measure => simp [intOf]; omega
    ·have hpu := push_app O X Y (fun m hm h => hjo ⟨m, _, hm, rfl, h⟩)
     rw [hpu] at HN1
     have HJO := Aside0.mk hjo
     clear hpu hjo
     rcases Nat.eq_zero_or_pos O.length with h0 | h0
     case' inr =>
      obtain ⟨m, hm⟩ : ∃ m, O.length = m + 1 := ⟨O.length - 1, by omega⟩
      obtain ⟨g7, e7a⟩ : ∃ g7, A7 = some ⟨g7, 0, none⟩ := by
       obtain ⟨inner, hown⟩ := Kd.R_own HO5.out
       rcases hown.2 with ⟨e0, e1⟩ | ⟨g, cap, cur, e0, _⟩
       ·omega
       ·injection e0 with e1 _ _; exact ⟨g, e1⟩
      subst e7a
      obtain ⟨ad7, e7a, hy0, hy1⟩ := at_T55 (Kd.R_reads' HO5.out).2.2 (m : Int) (by omega) (by omega)
      injection e7a with e7a
      subst e7a
      simp only [add_plain, Int.toNat_natCast] at hy0 hy1
      have hjb : ((rd_T55 O (m : Int)).f1 == X) = false := by simpa using fun h => HJO.out ⟨m, _, hm, rfl, h⟩
      have hw1 : IntKind.i64.wrap (m : Int) = (m : Int) := by rw [i64_w]; unfold wrap64; omega
      have hm0 : 0 ≤ (m : Int) := by omega
      have hmm : ((m : Int) < (m : Int) + 1) = True := eq_true (by omega)
      generalize rd_T55 O (m : Int) = t at *
      rw [hm] at HO5
      rw [hm]
     case' inl =>
      rw [h0] at HO5
      rw [h0]
     all_goals
      clear h0
      rcases hy with rfl | rfl | rfl <;> cases p <;> cases q <;> first | exact absurd rfl hsk | skip
     all_goals
      clear hsk
      go_wp2
      go_quiet (fail)
      have HB6 := Aside0.mk (below_drew1 (pw_below_drewN HB5.out nq))
      have HO6 := Aside0.mk (Kd.R_drew (Kd.R_drewN HO5.out nq))
      obtain ⟨hu0, hu1⟩ := HZ.out _ HB6.out
      try clear hy0 hy1
      clear hz0 hz1
      go_wp2
      refine start_ (n := 14) (S := fun w' => w'.cell? (ad.add kk) = some (.int .i64 X) ∧ w'.cell? ⟨ad.block, ad.off + (kk + 1), none⟩ = some (.int .i64 Y)) (ds := [11, 12]) #[false, false, false, false, false, false, false, false, false, false, false, false, false, false] (by kernel_rfl) rfl rfl ⟨hu0, hu1⟩ (fun hHeld => ?_); refine with_tabW papermillref04_combine.tab11 papermillref04_combine.bits11 (fun HT_ HW_ => ?_)
      generalize (w5.drewN nq).drew = w6 at HO6 HB6 hu0 hu1 hHeld ⊢
      refine pu_ 0 (some 93) HT_ ?_
      refine pu_ 1 (some 94) HT_ ?_
      refine pu_ 2 (some 95) HT_ ?_
      refine pu_ 3 (some 96) HT_ ?_
      refine pu_ 5 (some 98) HT_ ?_
      refine pu_ 6 (some 99) HT_ ?_
      refine pu_ 7 (some 100) HT_ ?_
      refine pu_ 8 (some 101) HT_ ?_
      refine tk_ 4 (some 97) HT_ HW_ hHeld ?_ (hy := .inl ⟨by rfl, by rintro w' ⟨s0, s1⟩; go_simp; with_reducible rfl⟩)
      refine tk_ 9 (some 102) HT_ HW_ hHeld ?_ (hy := .inl ⟨by rfl, by rintro w' ⟨s0, s1⟩; go_simp; with_reducible rfl⟩)
      refine pu_ 10 (some 103) HT_ ?_
      refine last_ (i := 11) (N := some 104) #[true, true, true, true, true, true, true, true, true, true, true, true, false, false] rfl rfl (one_of HT_.out (by kernel_rfl)) (by decide) (fun K hK => ?_)
      refine value_ (w1 := ?_) (v := ?_) (by rfl) rfl ?_ ?_
      rotate_left 2
      ·go_simp
       constructor
       ·rfl
       ·rfl
      refine hK.out _ _ ?_
      clear hK K
      refine norm_ (a' := ?_) ?_ ?_
      rotate_left
      ·show Act.put _ (some 104) _ = _
       simp only [Act.put, List.setIfInBounds_toArray, List.set_cons_zero, List.set_cons_succ, i64_w, i32_w]
       rfl
      refine last_ (i := 12) (N := some 105) #[true, true, true, true, true, true, true, true, true, true, true, true, true, false] rfl rfl (one_of HT_.out (by kernel_rfl)) (by decide) (fun K hK => ?_)
      refine Kd.R_append_step k55 (w0 := w1) w1.heap.size (by rfl) (.tmp 93) (.tmp 104) 29 55 (.agg #[(.int .i64 0), (.int .i64 0)]) 16 rfl Try.underlying29 info55 rfl (by decide) (by omega) _ O ⟨X, Y⟩ [.int .i64 X, .int .i64 Y] (fun _ => True) (fun _ => False) rfl rfl (k55_mkM _ _ _ ⟨X, Y⟩) (fun _ hk => hk.elim) (fun _ _ => trivial) HO6.out HB6.out HB6.out.size (by omega) ?_
      intro v8 w8 ho hb hg hat
      have HO8 := Aside0.mk ho
      have HB8 := Aside0.mk hb
      clear ho hb hg hat hu0 hu1 hHeld
      refine hK.out _ _ ?_
      clear hK K
      refine norm_ (a' := ?_) ?_ ?_
      rotate_left
      ·show Act.put _ (some 105) _ = _
       simp only [Act.put, List.setIfInBounds_toArray, List.set_cons_zero, List.set_cons_succ, i64_w, i32_w]
       rfl
      refine pu_ 13 (some 8) HT_ ?_
      refine done_ (done_of HT_.out (by kernel_rfl)) ?_
      try go_wp2
      go_roundw
      case rel => exact ⟨kk + 1, O ++ [⟨X, Y⟩], by go_num, ⟨by omega⟩, ⟨by rw [List.length_append]; simp; omega⟩, HN1, HO8, HB8⟩
      case measure => simp [intOf]; omega
  ·have hd0 : decide (((kk + 1 : Nat) : Int) < (cuts.length : Int)) = false := decide_eq_false (by omega)
   have hd1 : decide (kk + 1 < cuts.length) = false := decide_eq_false hk
   have hfin : O = RES := by
    have := HGO.out
    rcases Nat.lt_or_ge kk cuts.length with h | h
    ·rw [dropI cuts kk h, List.drop_of_length_le (l := cuts) (i := kk + 1) (by omega)] at this
     exact this
    ·rw [List.drop_of_length_le h] at this
     exact this
   rw [hfin] at HO
   obtain ⟨A7, c7, e7⟩ := Kd.R_slice HO.out
   subst e7
   go_wp2
   go_ret
   exact ⟨_, rfl, Kd.R_lower HO.out HB1.out.size, HB1.out.trans (HB.out.mono HB1.out.size)⟩
theorem papermillref04_combine.calls (A0 : Option Addr) (c0 : Nat) (l0 : List (S55)) (A1 : Option Addr) (c1 : Nat) (l1 : List (S55)) (a2 : Int) (r : List (S55)) (w : World) (hr0 : Kd.C k55 w A0 l0.length l0) (hc0 : l0.length ≤ c0) (hr1 : Kd.C k55 w A1 l1.length l1) (hc1 : l1.length ≤ c1) (h : papermillref04_combine.f l0 l1 a2 = some r) :
  Calls Try.prog 79 #[.slice A0 l0.length c0, .slice A1 l1.length c1, .int .i64 a2] w fun e w' => ∃ v0_ : Value, e = .returned (v0_) ∧ Kd.R k55 55 w' w.heap.size (fun _ => True) v0_ r ∧ Below w.heap.size w w' := by
 unfold papermillref04_combine.f at h
 by_cases hh : l0.length ≤ 256 ∧ l1.length ≤ 256 ∧ (a2 = 0 ∨ a2 = 1 ∨ a2 = 2)
 ·rw [if_pos hh] at h
  obtain rfl := Option.some.inj h
  exact comb_main A0 c0 l0 A1 c1 l1 a2 w hr0 hc0 hr1 hc1 hh.1 hh.2.1 hh.2.2
 ·rw [if_neg hh] at h; cases h
end Go.Proofs.Ytalpegglbfobiaa.G

namespace Go.Proofs.Ytalpegglbfobiaa.G
open Go.RowKit Go.Proofs.YtalpegglbfobiaaW.PrintWords Go.Proofs.YtalpegglbfobiaaW.PrintLast Go.Proofs.YtalpegglbfobiaaW.PrintMore
attribute [local go_sem] max2_int min2_int max_two min_two max_three min_three max_four min_four   -- for this text's walks alone
set_option linter.unusedVariables false
set_option linter.unusedSimpArgs false

def papermillref04_both.f (k : Nat) (l0 : List (S55)) (l1 : List (S55)) (a2 : Int) : Option ((List (S55)) × Int) := (papermillref04_Check.f k l0).bind fun t72001 => (if t72001 = 0 then ((papermillref04_Check.f k l1).bind fun t72002 => (if t72002 = 0 then ((papermillref04_combine.f l0 l1 a2).bind fun t72003 => (if (t72003.length : Int) > 256 then (some (([] : List (S55)), 8)) else (some (t72003, 0)))) else (some (([] : List (S55)), t72002)))) else (some (([] : List (S55)), t72001)))
set_option maxHeartbeats 8000000 in
set_option maxRecDepth 100000 in
theorem papermillref04_both.calls (k : Nat) (A0 : Option Addr) (c0 : Nat) (l0 : List (S55)) (A1 : Option Addr) (c1 : Nat) (l1 : List (S55)) (a2 : Int) (r1 : List (S55)) (r2 : Int) (w : World) (hr0 : Kd.C k55 w A0 l0.length l0) (hc0 : l0.length ≤ c0) (hr1 : Kd.C k55 w A1 l1.length l1) (hc1 : l1.length ≤ c1) (h : papermillref04_both.f k l0 l1 a2 = some (r1, r2)) :
  Calls Try.prog 71 #[.slice A0 l0.length c0, .slice A1 l1.length c1, .int .i64 a2] w fun e w' => ∃ v0_ : Value, e = .returned (.tuple #[v0_, .int .i64 r2]) ∧ Kd.R k55 55 w' w.heap.size (fun _ => True) v0_ r1 ∧ Below w.heap.size w w' := by
 have HR0 := Aside0.mk hr0
 have HC0 := Aside0.mk hc0
 clear hr0 hc0
 have HR1 := Aside0.mk hr1
 have HC1 := Aside0.mk hc1
 clear hr1 hc1
 have HB := Aside0.mk (Below.refl w.heap.size w)
 have H : ((papermillref04_Check.f k l0).bind fun t72001 => (if t72001 = 0 then ((papermillref04_Check.f k l1).bind fun t72002 => (if t72002 = 0 then ((papermillref04_combine.f l0 l1 a2).bind fun t72003 => (if (t72003.length : Int) > 256 then (some (([] : List (S55)), 8)) else (some (t72003, 0)))) else (some (([] : List (S55)), t72002)))) else (some (([] : List (S55)), t72001)))) = some (r1, r2) := h
 clear h
 replace H := Option.bind_eq_some_iff.mp H
 obtain ⟨t72001, A40, H⟩ := H
 replace H : (if t72001 = 0 then ((papermillref04_Check.f k l1).bind fun t72002 => (if t72002 = 0 then ((papermillref04_combine.f l0 l1 a2).bind fun t72003 => (if (t72003.length : Int) > 256 then (some (([] : List (S55)), 8)) else (some (t72003, 0)))) else (some (([] : List (S55)), t72002)))) else (some (([] : List (S55)), t72001))) = some (r1, r2) := H
 have A4 := Aside0.mk A40
 clear A40
 by_cases c5 : t72001 = 0
 ·rw [if_pos c5] at H
  have c5b0 : (t72001 == 0) = true := beq_iff_eq.mpr c5
  have c5b1 : (t72001 != 0) = false := bne_eq_false_iff_eq.mpr c5
  clear c5
  replace H := Option.bind_eq_some_iff.mp H
  obtain ⟨t72002, A60, H⟩ := H
  replace H : (if t72002 = 0 then ((papermillref04_combine.f l0 l1 a2).bind fun t72003 => (if (t72003.length : Int) > 256 then (some (([] : List (S55)), 8)) else (some (t72003, 0)))) else (some (([] : List (S55)), t72002))) = some (r1, r2) := H
  have A6 := Aside0.mk A60
  clear A60
  by_cases c7 : t72002 = 0
  ·rw [if_pos c7] at H
   have c7b0 : (t72002 == 0) = true := beq_iff_eq.mpr c7
   have c7b1 : (t72002 != 0) = false := bne_eq_false_iff_eq.mpr c7
   clear c7
   replace H := Option.bind_eq_some_iff.mp H
   obtain ⟨t72003, A80, H⟩ := H
   replace H : (if (t72003.length : Int) > 256 then (some (([] : List (S55)), 8)) else (some (t72003, 0))) = some (r1, r2) := H
   have A8 := Aside0.mk A80
   clear A80
   by_cases c9 : (t72003.length : Int) > 256
   ·rw [if_pos c9] at H
    have c9b0 : decide (256 < (t72003.length : Int)) = true := decide_eq_true c9
    have c9b1 : decide (256 < t72003.length) = true := decide_eq_true (by omega)
    clear c9
    simp only [Option.some.injEq, Prod.mk.injEq] at H
    obtain ⟨rfl, rfl⟩ := H
    go_enter Try.func71, Try.ntmps71
    go_wp2_with (first | ((with_reducible refine gate_callee (f := 78) rfl ?_); refine goesL_ (some 12) rfl rfl Try.func78 (by kernel_rfl) rfl #[.slice A0 l0.length c0] rfl (by (try simp only [List.map_toArray, List.map_cons, List.map_nil]); first | done | rfl | (simp only [List.length_drop, List.length_take]; rfl)) ?_; (with_reducible refine (papermillref04_Check.calls k _ _ l0 t72001 _ ?side1 ?side2 A4.out).mono ?_); (case side1 => exact HR0.out); (case side2 => exact HC0.out); rintro e w' ⟨rfl, ⟨nd, rfl⟩⟩; refine ⟨_, rfl, ?_⟩) | ((with_reducible refine gate_callee (f := 78) rfl ?_); refine goesL_ (some 17) rfl rfl Try.func78 (by kernel_rfl) rfl #[.slice A1 l1.length c1] rfl (by (try simp only [List.map_toArray, List.map_cons, List.map_nil]); first | done | rfl | (simp only [List.length_drop, List.length_take]; rfl)) ?_; (with_reducible refine (papermillref04_Check.calls k _ _ l1 t72002 _ ?side1 ?side2 A6.out).mono ?_); (case side1 => exact HR1.out); (case side2 => exact HC1.out); rintro e w' ⟨rfl, ⟨nd, rfl⟩⟩; refine ⟨_, rfl, ?_⟩) | ((with_reducible refine gate_callee (f := 79) rfl ?_); refine goesL_ (some 24) rfl rfl Try.func79 (by kernel_rfl) rfl #[.slice A0 l0.length c0, .slice A1 l1.length c1, .int .i64 a2] rfl (by (try simp only [List.map_toArray, List.map_cons, List.map_nil]); first | done | rfl | (simp only [List.length_drop, List.length_take]; rfl)) ?_; (with_reducible refine (papermillref04_combine.calls _ _ l0 _ _ l1 a2 t72003 _ ?side1 ?side2 ?side3 ?side4 A8.out).mono ?_); (case side1 => exact HR0.out); (case side2 => exact HC0.out); (case side3 => exact HR1.out); (case side4 => exact HC1.out); rintro e w10 ⟨v72004, rfl, ho0, hb⟩; refine ⟨_, rfl, ?_⟩; have n0_ := Aside0.mk (Kd.R_lower ho0 (below_size (by repeat (first | exact HB.out | apply below_alloc | apply pw_below_drewN | apply below_drew1)))); have n1_ := Aside0.mk (below_step (by repeat (first | exact HB.out | apply below_alloc | apply pw_below_drewN | apply below_drew1)) hb); clear HB; have HO72005 := n0_; have HB := n1_; clear n0_ n1_; (try clear hb); (try clear hb2); (try clear hk); (try clear hi); (try clear ho0); obtain ⟨Ao11, co11, eo11⟩ := Kd.R_slice HO72005.out; subst eo11))
    go_ret2
    exact ⟨_, by first | rfl | (simp [errW_none, errW_some] <;> rfl) | (simp [*, errW_none, errW_some] <;> rfl), by first | exact Kd.R_nil _ _ _ _ _ | exact Kd.N_nil _ _ _ _ _ | exact Kd.V_nil _ _ _ _ _ | exact Kd.Q_nil _ _ _ _ _ | exact Kd.S_nil _ _ _ _ _, by repeat (first | exact HB.out | apply below_alloc | apply pw_below_drewN | apply below_drew1)⟩
   ·rw [if_neg c9] at H
    have c9b0 : decide (256 < (t72003.length : Int)) = false := decide_eq_false c9
    have c9b1 : decide (256 < t72003.length) = false := decide_eq_false (by omega)
    clear c9
    simp only [Option.some.injEq, Prod.mk.injEq] at H
    obtain ⟨rfl, rfl⟩ := H
    go_enter Try.func71, Try.ntmps71
    go_wp2_with (first | ((with_reducible refine gate_callee (f := 78) rfl ?_); refine goesL_ (some 12) rfl rfl Try.func78 (by kernel_rfl) rfl #[.slice A0 l0.length c0] rfl (by (try simp only [List.map_toArray, List.map_cons, List.map_nil]); first | done | rfl | (simp only [List.length_drop, List.length_take]; rfl)) ?_; (with_reducible refine (papermillref04_Check.calls k _ _ l0 t72001 _ ?side1 ?side2 A4.out).mono ?_); (case side1 => exact HR0.out); (case side2 => exact HC0.out); rintro e w' ⟨rfl, ⟨nd, rfl⟩⟩; refine ⟨_, rfl, ?_⟩) | ((with_reducible refine gate_callee (f := 78) rfl ?_); refine goesL_ (some 17) rfl rfl Try.func78 (by kernel_rfl) rfl #[.slice A1 l1.length c1] rfl (by (try simp only [List.map_toArray, List.map_cons, List.map_nil]); first | done | rfl | (simp only [List.length_drop, List.length_take]; rfl)) ?_; (with_reducible refine (papermillref04_Check.calls k _ _ l1 t72002 _ ?side1 ?side2 A6.out).mono ?_); (case side1 => exact HR1.out); (case side2 => exact HC1.out); rintro e w' ⟨rfl, ⟨nd, rfl⟩⟩; refine ⟨_, rfl, ?_⟩) | ((with_reducible refine gate_callee (f := 79) rfl ?_); refine goesL_ (some 24) rfl rfl Try.func79 (by kernel_rfl) rfl #[.slice A0 l0.length c0, .slice A1 l1.length c1, .int .i64 a2] rfl (by (try simp only [List.map_toArray, List.map_cons, List.map_nil]); first | done | rfl | (simp only [List.length_drop, List.length_take]; rfl)) ?_; (with_reducible refine (papermillref04_combine.calls _ _ l0 _ _ l1 a2 t72003 _ ?side1 ?side2 ?side3 ?side4 A8.out).mono ?_); (case side1 => exact HR0.out); (case side2 => exact HC0.out); (case side3 => exact HR1.out); (case side4 => exact HC1.out); rintro e w12 ⟨v72004, rfl, ho0, hb⟩; refine ⟨_, rfl, ?_⟩; have n0_ := Aside0.mk (Kd.R_lower ho0 (below_size (by repeat (first | exact HB.out | apply below_alloc | apply pw_below_drewN | apply below_drew1)))); have n1_ := Aside0.mk (below_step (by repeat (first | exact HB.out | apply below_alloc | apply pw_below_drewN | apply below_drew1)) hb); clear HB; have HO72005 := n0_; have HB := n1_; clear n0_ n1_; (try clear hb); (try clear hb2); (try clear hk); (try clear hi); (try clear ho0); obtain ⟨Ao13, co13, eo13⟩ := Kd.R_slice HO72005.out; subst eo13))
    go_ret2
    exact ⟨_, by first | rfl | (simp [errW_none, errW_some] <;> rfl) | (simp [*, errW_none, errW_some] <;> rfl), by exact HO72005.out, by repeat (first | exact HB.out | apply below_alloc | apply pw_below_drewN | apply below_drew1)⟩
  ·rw [if_neg c7] at H
   have c7b0 : (t72002 == 0) = false := beq_eq_false_iff_ne.mpr c7
   have c7b1 : (t72002 != 0) = true := bne_iff_ne.mpr c7
   simp only [Option.some.injEq, Prod.mk.injEq] at H
   obtain ⟨rfl, rfl⟩ := H
   go_enter Try.func71, Try.ntmps71
   go_wp2_with (first | ((with_reducible refine gate_callee (f := 78) rfl ?_); refine goesL_ (some 12) rfl rfl Try.func78 (by kernel_rfl) rfl #[.slice A0 l0.length c0] rfl (by (try simp only [List.map_toArray, List.map_cons, List.map_nil]); first | done | rfl | (simp only [List.length_drop, List.length_take]; rfl)) ?_; (with_reducible refine (papermillref04_Check.calls k _ _ l0 t72001 _ ?side1 ?side2 A4.out).mono ?_); (case side1 => exact HR0.out); (case side2 => exact HC0.out); rintro e w' ⟨rfl, ⟨nd, rfl⟩⟩; refine ⟨_, rfl, ?_⟩) | ((with_reducible refine gate_callee (f := 78) rfl ?_); refine goesL_ (some 17) rfl rfl Try.func78 (by kernel_rfl) rfl #[.slice A1 l1.length c1] rfl (by (try simp only [List.map_toArray, List.map_cons, List.map_nil]); first | done | rfl | (simp only [List.length_drop, List.length_take]; rfl)) ?_; (with_reducible refine (papermillref04_Check.calls k _ _ l1 t72002 _ ?side1 ?side2 A6.out).mono ?_); (case side1 => exact HR1.out); (case side2 => exact HC1.out); rintro e w' ⟨rfl, ⟨nd, rfl⟩⟩; refine ⟨_, rfl, ?_⟩))
   go_ret2
   exact ⟨_, by first | rfl | (simp [errW_none, errW_some] <;> rfl) | (simp [*, errW_none, errW_some] <;> rfl), by first | exact Kd.R_nil _ _ _ _ _ | exact Kd.N_nil _ _ _ _ _ | exact Kd.V_nil _ _ _ _ _ | exact Kd.Q_nil _ _ _ _ _ | exact Kd.S_nil _ _ _ _ _, by repeat (first | exact HB.out | apply below_alloc | apply pw_below_drewN | apply below_drew1)⟩
 ·rw [if_neg c5] at H
  have c5b0 : (t72001 == 0) = false := beq_eq_false_iff_ne.mpr c5
  have c5b1 : (t72001 != 0) = true := bne_iff_ne.mpr c5
  simp only [Option.some.injEq, Prod.mk.injEq] at H
  obtain ⟨rfl, rfl⟩ := H
  go_enter Try.func71, Try.ntmps71
  go_wp2_with (first | ((with_reducible refine gate_callee (f := 78) rfl ?_); refine goesL_ (some 12) rfl rfl Try.func78 (by kernel_rfl) rfl #[.slice A0 l0.length c0] rfl (by (try simp only [List.map_toArray, List.map_cons, List.map_nil]); first | done | rfl | (simp only [List.length_drop, List.length_take]; rfl)) ?_; (with_reducible refine (papermillref04_Check.calls k _ _ l0 t72001 _ ?side1 ?side2 A4.out).mono ?_); (case side1 => exact HR0.out); (case side2 => exact HC0.out); rintro e w' ⟨rfl, ⟨nd, rfl⟩⟩; refine ⟨_, rfl, ?_⟩))
  go_ret2
  exact ⟨_, by first | rfl | (simp [errW_none, errW_some] <;> rfl) | (simp [*, errW_none, errW_some] <;> rfl), by first | exact Kd.R_nil _ _ _ _ _ | exact Kd.N_nil _ _ _ _ _ | exact Kd.V_nil _ _ _ _ _ | exact Kd.Q_nil _ _ _ _ _ | exact Kd.S_nil _ _ _ _ _, by repeat (first | exact HB.out | apply below_alloc | apply pw_below_drewN | apply below_drew1)⟩

end Go.Proofs.Ytalpegglbfobiaa.G

namespace Go.Proofs.Ytalpegglbfobiaa.G
open Go.RowKit Go.Proofs.YtalpegglbfobiaaW.PrintWords Go.Proofs.YtalpegglbfobiaaW.PrintLast Go.Proofs.YtalpegglbfobiaaW.PrintMore
attribute [local go_sem] max2_int min2_int max_two min_two max_three min_three max_four min_four   -- for this text's walks alone
set_option linter.unusedVariables false
set_option linter.unusedSimpArgs false

def papermillref04_Norm.f (k : Nat) (l0 : List (S55)) : Option ((List (S55)) × Int) := (papermillref04_both.f k l0 ([] : List (S55)) 0).bind fun bt59001 => (some (bt59001.1, bt59001.2))
set_option maxHeartbeats 8000000 in
set_option maxRecDepth 100000 in
theorem papermillref04_Norm.calls (k : Nat) (A0 : Option Addr) (c0 : Nat) (l0 : List (S55)) (r1 : List (S55)) (r2 : Int) (w : World) (hr0 : Kd.C k55 w A0 l0.length l0) (hc0 : l0.length ≤ c0) (h : papermillref04_Norm.f k l0 = some (r1, r2)) :
  Calls Try.prog 58 #[.slice A0 l0.length c0] w fun e w' => ∃ v0_ : Value, e = .returned (.tuple #[v0_, .int .i64 r2]) ∧ Kd.R k55 55 w' w.heap.size (fun _ => True) v0_ r1 ∧ Below w.heap.size w w' := by
 have HR0 := Aside0.mk hr0
 have HC0 := Aside0.mk hc0
 clear hr0 hc0
 have HB := Aside0.mk (Below.refl w.heap.size w)
 have H : ((papermillref04_both.f k l0 ([] : List (S55)) 0).bind fun bt59001 => (some (bt59001.1, bt59001.2))) = some (r1, r2) := h
 clear h
 replace H := Option.bind_eq_some_iff.mp H
 obtain ⟨⟨t59001, t59002⟩, A20, H⟩ := H
 replace H : (some (t59001, t59002)) = some (r1, r2) := H
 have A2 := Aside0.mk A20
 clear A20
 simp only [Option.some.injEq, Prod.mk.injEq] at H
 obtain ⟨rfl, rfl⟩ := H
 go_enter Try.func58, Try.ntmps58
 go_wp2_with (first | ((with_reducible refine gate_callee (f := 71) rfl ?_); refine goesL_ (some 5) rfl rfl Try.func71 (by kernel_rfl) rfl #[.slice A0 l0.length c0, .slice none 0 0, .int .i64 0] rfl (by (try simp only [List.map_toArray, List.map_cons, List.map_nil]); first | done | rfl | (simp only [List.length_drop, List.length_take]; rfl)) ?_; (refine (papermillref04_both.calls k _ _ l0 _ _ ([] : List (S55)) 0 t59001 t59002 _ ?side1 ?side2 ?side3 ?side4 A2.out).mono ?_); (case side1 => exact HR0.out); (case side2 => exact HC0.out); (case side3 => exact Kd.C_nil _ _); (case side4 => exact Nat.le_refl _); rintro e w3 ⟨v59003, rfl, ho0, hb⟩; refine ⟨_, rfl, ?_⟩; have n0_ := Aside0.mk (Kd.R_lower ho0 (below_size (by repeat (first | exact HB.out | apply below_alloc | apply pw_below_drewN | apply below_drew1)))); have n1_ := Aside0.mk (below_step (by repeat (first | exact HB.out | apply below_alloc | apply pw_below_drewN | apply below_drew1)) hb); clear HB; have HO59004 := n0_; have HB := n1_; clear n0_ n1_; (try clear hb); (try clear hb2); (try clear hk); (try clear hi); (try clear ho0)))
 go_ret2
 exact ⟨_, by first | rfl | (simp [errW_none, errW_some] <;> rfl) | (simp [*, errW_none, errW_some] <;> rfl), by exact HO59004.out, by repeat (first | exact HB.out | apply below_alloc | apply pw_below_drewN | apply below_drew1)⟩

end Go.Proofs.Ytalpegglbfobiaa.G

namespace Go.Proofs.Ytalpegglbfobiaa.G
open Go.RowKit Go.Proofs.YtalpegglbfobiaaW.PrintWords Go.Proofs.YtalpegglbfobiaaW.PrintLast Go.Proofs.YtalpegglbfobiaaW.PrintMore
attribute [local go_sem] max2_int min2_int max_two min_two max_three min_three max_four min_four   -- for this text's walks alone
set_option linter.unusedVariables false
set_option linter.unusedSimpArgs false

def papermillref13_Image.l0 : Nat → List (S44) → List (S55) → Int → Option ((List (S55)) × Int)
 | 0, _, _, _ => none
 | k + 1, x0, x5, x6 => if x6 < (x0.length : Int) then (if 0 ≤ x6 then ((papermillref13_image.f ((rd_T44 x0 x6).f0) ((rd_T44 x0 x6).f1) ((rd_T44 x0 x6).f2) (wrap64 (((rd_T44 x0 x6).f1) - 1))).bind fun t50005 => (if x5.length < 8796093022208 then (papermillref13_Image.l0 k x0 (x5 ++ [(⟨mn ((rd_T44 x0 x6).f0) t50005, wrap64 ((mx ((rd_T44 x0 x6).f0) t50005) + 1)⟩ : S55)]) (wrap64 (x6 + 1))) else (none))) else (none)) else ((papermillref04_Norm.f k x5).bind fun bt50009 => (some (bt50009.1, bt50009.2)))
def papermillref13_Image.f (k : Nat) (l0 : List (S44)) : Option ((List (S55)) × Int) := (papermillref13_Check.f k l0).bind fun t50001 => (if t50001 = 0 then (papermillref13_Image.l0 k l0 ([] : List (S55)) 0) else (some (([] : List (S55)), t50001)))
def papermillref13_Image.T8 : Bool × List (List Nat × List Nat) := (true, [([], []), ([], []), ([0, 1], [0, 1]), ([2], [2]), ([3], [3]), ([], []), ([], []), ([5, 6], [5, 6]), ([7], [7]), ([], []), ([], []), ([9, 10], [9, 10]), ([11], [11]), ([12], [12]), ([13], [13]), ([8, 14], [8, 14]), ([4, 15, 0, 1, 2, 3, 4], [4]), ([15, 16, 0, 1, 2, 3, 4, 5, 6, 7, 8, 9, 10, 11, 12, 13, 14, 15, 16], [15])])
def papermillref13_Image.B8 : List Nat := [0, 0, 3, 7, 15, 0, 0, 96, 224, 0, 0, 1536, 3584, 7680, 15872, 32736, 65535, 131071]
theorem papermillref13_Image.tab8 : rtab .any (opsOf Try.f49 8) = papermillref13_Image.T8 := by kernel_rfl
theorem papermillref13_Image.bits8 : waitsOk papermillref13_Image.T8.2 papermillref13_Image.B8 = true := by kernel_rfl
set_option maxHeartbeats 8000000 in
set_option maxRecDepth 100000 in
theorem papermillref13_Image.calls (k : Nat) (A0 : Option Addr) (c0 : Nat) (l0 : List (S44)) (r1 : List (S55)) (r2 : Int) (w : World) (hr0 : Kd.C k44 w A0 l0.length l0) (hc0 : l0.length ≤ c0) (h : papermillref13_Image.f k l0 = some (r1, r2)) :
  Calls Try.prog 49 #[.slice A0 l0.length c0] w fun e w' => ∃ v0_ : Value, e = .returned (.tuple #[v0_, .int .i64 r2]) ∧ Kd.R k55 55 w' w.heap.size (fun _ => True) v0_ r1 ∧ Below w.heap.size w w' := by
 have hu44 := Try.underlying44
 have hu55 := Try.underlying55
 have HR0 := Aside0.mk hr0
 have HC0 := Aside0.mk hc0
 clear hr0 hc0
 have HB := Aside0.mk (Below.refl w.heap.size w)
 have H : ((papermillref13_Check.f k l0).bind fun t50001 => (if t50001 = 0 then (papermillref13_Image.l0 k l0 ([] : List (S55)) 0) else (some (([] : List (S55)), t50001)))) = some (r1, r2) := h
 clear h
 replace H := Option.bind_eq_some_iff.mp H
 obtain ⟨t50001, A20, H⟩ := H
 replace H : (if t50001 = 0 then (papermillref13_Image.l0 k l0 ([] : List (S55)) 0) else (some (([] : List (S55)), t50001))) = some (r1, r2) := H
 have A2 := Aside0.mk A20
 clear A20
 by_cases c3 : t50001 = 0
 ·rw [if_pos c3] at H
  have c3b0 : (t50001 == 0) = true := beq_iff_eq.mpr c3
  have c3b1 : (t50001 != 0) = false := bne_eq_false_iff_eq.mpr c3
  clear c3
  have H' := Aside0.mk H
  clear H
  go_enter Try.func49, Try.ntmps49
  go_wp2_with (first | ((with_reducible refine gate_callee (f := 25) rfl ?_); refine goesL_ (some 10) rfl rfl Try.func25 (by kernel_rfl) rfl #[.slice A0 l0.length c0] rfl (by (try simp only [List.map_toArray, List.map_cons, List.map_nil]); first | done | rfl | (simp only [List.length_drop, List.length_take]; rfl)) ?_; (with_reducible refine (papermillref13_Check.calls k _ _ l0 t50001 _ ?side1 ?side2 A2.out).mono ?_); (case side1 => exact HR0.out); (case side2 => exact HC0.out); rintro e w4 ⟨rfl, hb⟩; refine ⟨_, rfl, ?_⟩; have n0_ := Aside0.mk (below_step (by repeat (first | exact HB.out | apply below_alloc | apply pw_below_drewN | apply below_drew1)) hb); clear HB; have HB := n0_; clear n0_; (try clear hb); (try clear hb2); (try clear hk); (try clear hi)))
  go_loopg [5, 6] k (fun kq v5 v6 w' => ∃ (x5_1 : List (S55)) (x6_1 : Int), v6 = .int .i64 x6_1 ∧ Aside0 (papermillref13_Image.l0 kq l0 x5_1 x6_1 = some (r1, r2)) ∧ Aside0 (kq ≤ k) ∧ Aside0 (Kd.R k55 55 w' w.heap.size (fun _ => True) v5 x5_1) ∧ Aside0 (Below w.heap.size w w'))
  case atStart => exact ⟨(([] : List (S55))), (0), (by first | rfl | (simp; done) | (simp [*]; done)), H', ⟨Nat.le_refl _⟩, ⟨by first | exact Kd.R_nil _ _ _ _ _ | exact Kd.N_nil _ _ _ _ _ | exact Kd.V_nil _ _ _ _ _ | exact Kd.Q_nil _ _ _ _ _ | exact Kd.S_nil _ _ _ _ _⟩, ⟨by repeat (first | exact HB.out | apply below_alloc | apply pw_below_drewN | apply below_drew1)⟩⟩
  case round =>
   clear H'
   try clear c2
   try clear p2
   try clear c3
   try clear c3b0
   try clear c3b1
   try clear c4
   obtain ⟨x5_1, x6_1, rfl, HA, HK1, HO_5, HB⟩ := hrel
   cases gk with
   | zero => exact absurd HA.out (by simp [papermillref13_Image.l0])
   | succ k1 =>
    have H := HA.out
    clear HA
    simp only [papermillref13_Image.l0] at H
    by_cases c5 : x6_1 < (l0.length : Int)
    ·rw [if_pos c5] at H
     have c5b0 : decide (x6_1 < (l0.length : Int)) = true := decide_eq_true c5
     clear c5
     by_cases c6 : 0 ≤ x6_1
     ·rw [if_pos c6] at H
      have c6b0 : decide (0 ≤ x6_1) = true := decide_eq_true c6
      clear c6
      replace H := Option.bind_eq_some_iff.mp H
      obtain ⟨t50005, A70, H⟩ := H
      replace H : (if x5_1.length < 8796093022208 then (papermillref13_Image.l0 k1 l0 (x5_1 ++ [(⟨mn ((rd_T44 l0 x6_1).f0) t50005, wrap64 ((mx ((rd_T44 l0 x6_1).f0) t50005) + 1)⟩ : S55)]) (wrap64 (x6_1 + 1))) else (none)) = some (r1, r2) := H
      have A7 := Aside0.mk A70
      clear A70
      obtain ⟨ji8, hji8⟩ : ∃ j_ : Int, (mn ((rd_T44 l0 x6_1).f0) t50005) = j_ := ⟨_, rfl⟩
      replace H : (if x5_1.length < 8796093022208 then (papermillref13_Image.l0 k1 l0 (x5_1 ++ [(⟨ji8, wrap64 ((mx ((rd_T44 l0 x6_1).f0) t50005) + 1)⟩ : S55)]) (wrap64 (x6_1 + 1))) else (none)) = some (r1, r2) := by first | (rw [hji8] at H; exact H) | (simp only [hji8] at H ⊢; exact H)
      (try rw [hji8] at A7)
      have hji8_ : (if t50005 < ((rd_T44 l0 x6_1).f0) then t50005 else ((rd_T44 l0 x6_1).f0)) = ji8 := hji8
      obtain ⟨ji9, hji9⟩ : ∃ j_ : Int, (mx ((rd_T44 l0 x6_1).f0) t50005) = j_ := ⟨_, rfl⟩
      replace H : (if x5_1.length < 8796093022208 then (papermillref13_Image.l0 k1 l0 (x5_1 ++ [(⟨ji8, wrap64 ((ji9) + 1)⟩ : S55)]) (wrap64 (x6_1 + 1))) else (none)) = some (r1, r2) := by first | (rw [hji9] at H; exact H) | (simp only [hji9] at H ⊢; exact H)
      (try rw [hji9] at A7)
      have hji9_ : (if ((rd_T44 l0 x6_1).f0) < t50005 then t50005 else ((rd_T44 l0 x6_1).f0)) = ji9 := hji9
      by_cases c10 : x5_1.length < 8796093022208
      ·rw [if_pos c10] at H
       have LMc10 := Aside0.mk c10
       clear c10
       obtain ⟨y50006, hy50006⟩ : ∃ y_ : List (S55), y_ = (x5_1 ++ [(⟨ji8, wrap64 ((ji9) + 1)⟩ : S55)]) := ⟨_, rfl⟩
       replace H : (papermillref13_Image.l0 k1 l0 y50006 (wrap64 (x6_1 + 1))) = some (r1, r2) := by first | (rw [hy50006]; with_reducible exact H) | (have H2_ := (Option.bind_some _ _).symm.trans H; rw [hy50006]; with_reducible exact H2_) | (have H2_ := (Option.bind_some _ _).symm.trans H; with_reducible exact H2_) | with_reducible exact H | (rw [hy50006]; exact H) | exact H
       have Ny50006 := Aside0.mk hy50006
       clear hy50006
       have H' := Aside0.mk H
       clear H
       try go_wp2
       have n0_ := Aside0.mk (Kd.R_drew HO_5.out)
       have n1_ := Aside0.mk (below_drew1 HB.out)
       clear HO_5
       clear HB
       have HO_5 := n0_
       have HB := n1_
       clear n0_ n1_
       have p50002 : 0 ≤ (x6_1 : Int) := of_decide_eq_true (by assumption)
       have q50002 : x6_1 < (l0.length : Int) := of_decide_eq_true (by assumption)
       obtain ⟨ad50002, e50002, hx50002_0, hx50002_1, hx50002_2⟩ := at_T44 HR0.out x6_1 p50002 q50002
       have hw50002_2 := hx50002_2
       have hw50002_1 := hx50002_1
       have hw50002_0 := hx50002_0
       cases e50002
       replace hx50002_0 := (HB.out.cell (World.block_lt_of_cell? w _ hx50002_0)).trans hx50002_0
       replace hx50002_1 := (HB.out.cell (World.block_lt_of_cell? w _ hx50002_1)).trans hx50002_1
       replace hx50002_2 := (HB.out.cell (World.block_lt_of_cell? w _ hx50002_2)).trans hx50002_2
       replace p50002 := eq_true p50002
       replace q50002 := eq_true q50002
       have p50003 : 0 ≤ (x6_1 : Int) := of_decide_eq_true (by assumption)
       have q50003 : x6_1 < (l0.length : Int) := of_decide_eq_true (by assumption)
       obtain ⟨ad50003, e50003, hx50003_0, hx50003_1, hx50003_2⟩ := at_T44 HR0.out x6_1 p50003 q50003
       have hw50003_2 := hx50003_2
       have hw50003_1 := hx50003_1
       have hw50003_0 := hx50003_0
       obtain rfl : ad50002 = ad50003 := (by injection e50003)
       replace hx50003_0 := (HB.out.cell (World.block_lt_of_cell? w _ hx50003_0)).trans hx50003_0
       replace hx50003_1 := (HB.out.cell (World.block_lt_of_cell? w _ hx50003_1)).trans hx50003_1
       replace hx50003_2 := (HB.out.cell (World.block_lt_of_cell? w _ hx50003_2)).trans hx50003_2
       replace p50003 := eq_true p50003
       replace q50003 := eq_true q50003
       have p50004 : 0 ≤ (x6_1 : Int) := of_decide_eq_true (by assumption)
       have q50004 : x6_1 < (l0.length : Int) := of_decide_eq_true (by assumption)
       obtain ⟨ad50004, e50004, hx50004_0, hx50004_1, hx50004_2⟩ := at_T44 HR0.out x6_1 p50004 q50004
       have hw50004_2 := hx50004_2
       have hw50004_1 := hx50004_1
       have hw50004_0 := hx50004_0
       obtain rfl : ad50002 = ad50004 := (by injection e50004)
       replace hx50004_0 := (HB.out.cell (World.block_lt_of_cell? w _ hx50004_0)).trans hx50004_0
       replace hx50004_1 := (HB.out.cell (World.block_lt_of_cell? w _ hx50004_1)).trans hx50004_1
       replace hx50004_2 := (HB.out.cell (World.block_lt_of_cell? w _ hx50004_2)).trans hx50004_2
       replace p50004 := eq_true p50004
       replace q50004 := eq_true q50004
       refine start_ (n := 18) (S := fun w' => w'.cell? (ad50002.add ((x6_1).toNat * 3)) = some (.int .i64 ((rd_T44 l0 x6_1).f0)) ∧ w'.cell? ⟨(ad50002.add ((x6_1).toNat * 3)).block, (ad50002.add ((x6_1).toNat * 3)).off + 1, none⟩ = some (.int .i64 ((rd_T44 l0 x6_1).f1)) ∧ w'.cell? ⟨(ad50002.add ((x6_1).toNat * 3)).block, (ad50002.add ((x6_1).toNat * 3)).off + 2, none⟩ = some (.bool ((rd_T44 l0 x6_1).f2)) ∧ w'.cell? (ad50002.add ((x6_1).toNat * 3)) = some (.int .i64 ((rd_T44 l0 x6_1).f0)) ∧ w'.cell? ⟨(ad50002.add ((x6_1).toNat * 3)).block, (ad50002.add ((x6_1).toNat * 3)).off + 1, none⟩ = some (.int .i64 ((rd_T44 l0 x6_1).f1)) ∧ w'.cell? ⟨(ad50002.add ((x6_1).toNat * 3)).block, (ad50002.add ((x6_1).toNat * 3)).off + 2, none⟩ = some (.bool ((rd_T44 l0 x6_1).f2)) ∧ w'.cell? (ad50002.add ((x6_1).toNat * 3)) = some (.int .i64 ((rd_T44 l0 x6_1).f0)) ∧ w'.cell? ⟨(ad50002.add ((x6_1).toNat * 3)).block, (ad50002.add ((x6_1).toNat * 3)).off + 1, none⟩ = some (.int .i64 ((rd_T44 l0 x6_1).f1)) ∧ w'.cell? ⟨(ad50002.add ((x6_1).toNat * 3)).block, (ad50002.add ((x6_1).toNat * 3)).off + 2, none⟩ = some (.bool ((rd_T44 l0 x6_1).f2))) (ds := []) #[false, false, false, false, false, false, false, false, false, false, false, false, false, false, false, false, false, false] (by kernel_rfl) rfl rfl ⟨((HB.out.cell (World.block_lt_of_cell? w _ hw50002_0)).trans hw50002_0), ((HB.out.cell (World.block_lt_of_cell? w _ hw50002_1)).trans hw50002_1), ((HB.out.cell (World.block_lt_of_cell? w _ hw50002_2)).trans hw50002_2), ((HB.out.cell (World.block_lt_of_cell? w _ hw50003_0)).trans hw50003_0), ((HB.out.cell (World.block_lt_of_cell? w _ hw50003_1)).trans hw50003_1), ((HB.out.cell (World.block_lt_of_cell? w _ hw50003_2)).trans hw50003_2), ((HB.out.cell (World.block_lt_of_cell? w _ hw50004_0)).trans hw50004_0), ((HB.out.cell (World.block_lt_of_cell? w _ hw50004_1)).trans hw50004_1), ((HB.out.cell (World.block_lt_of_cell? w _ hw50004_2)).trans hw50004_2)⟩ (fun hHeld => ?_); refine with_tabW papermillref13_Image.tab8 papermillref13_Image.bits8 (fun HT_ HW_ => ?_)
       generalize wr.drew = w11 at HO_5 HB hx50002_0 hx50002_1 hx50002_2 hx50003_0 hx50003_1 hx50003_2 hx50004_0 hx50004_1 hx50004_2 hHeld ⊢
       refine pure_ (i := 0) (N := some 20) (v := ?_) (a' := ?_) #[true, false, false, false, false, false, false, false, false, false, false, false, false, false, false, false, false, false] rfl rfl (any_of HT_.out (by kernel_rfl)) (fun _ _ _ h => h) (Or.inl ⟨by rfl, ?_⟩) ?_ ?_
       rotate_left
       ·intro w'
        go_simp
        with_reducible rfl
       rotate_left
       ·simp only [Act.put, List.setIfInBounds_toArray, List.set_cons_zero, List.set_cons_succ, i64_w, i32_w]
        rfl
       refine pure_ (i := 1) (N := some 21) (v := ?_) (a' := ?_) #[true, true, false, false, false, false, false, false, false, false, false, false, false, false, false, false, false, false] rfl rfl (any_of HT_.out (by kernel_rfl)) (fun _ _ _ h => h) (Or.inl ⟨by rfl, ?_⟩) ?_ ?_
       rotate_left
       ·intro w'
        go_simp
        with_reducible rfl
       rotate_left
       ·simp only [Act.put, List.setIfInBounds_toArray, List.set_cons_zero, List.set_cons_succ, i64_w, i32_w]
        rfl
       refine pure_ (i := 2) (N := some 22) (v := ?_) (a' := ?_) #[true, true, true, false, false, false, false, false, false, false, false, false, false, false, false, false, false, false] rfl rfl (any_of HT_.out (by kernel_rfl)) (fun _ _ _ h => h) (Or.inl ⟨by rfl, ?_⟩) ?_ ?_
       rotate_left
       ·intro w'
        go_simp
        with_reducible rfl
       rotate_left
       ·simp only [Act.put, List.setIfInBounds_toArray, List.set_cons_zero, List.set_cons_succ, i64_w, i32_w]
        rfl
       refine pure_ (i := 3) (N := some 23) (v := ?_) (a' := ?_) #[true, true, true, true, false, false, false, false, false, false, false, false, false, false, false, false, false, false] rfl rfl (any_of HT_.out (by kernel_rfl)) (fun _ _ _ h => h) (Or.inl ⟨by rfl, ?_⟩) ?_ ?_
       rotate_left
       ·intro w'
        go_simp
        with_reducible rfl
       rotate_left
       ·simp only [Act.put, List.setIfInBounds_toArray, List.set_cons_zero, List.set_cons_succ, i64_w, i32_w]
        rfl
       refine pure_ (i := 5) (N := some 25) (v := ?_) (a' := ?_) #[true, true, true, true, false, true, false, false, false, false, false, false, false, false, false, false, false, false] rfl rfl (any_of HT_.out (by kernel_rfl)) (fun _ _ _ h => h) (Or.inl ⟨by rfl, ?_⟩) ?_ ?_
       rotate_left
       ·intro w'
        go_simp
        with_reducible rfl
       rotate_left
       ·simp only [Act.put, List.setIfInBounds_toArray, List.set_cons_zero, List.set_cons_succ, i64_w, i32_w]
        rfl
       refine pure_ (i := 6) (N := some 26) (v := ?_) (a' := ?_) #[true, true, true, true, false, true, true, false, false, false, false, false, false, false, false, false, false, false] rfl rfl (any_of HT_.out (by kernel_rfl)) (fun _ _ _ h => h) (Or.inl ⟨by rfl, ?_⟩) ?_ ?_
       rotate_left
       ·intro w'
        go_simp
        with_reducible rfl
       rotate_left
       ·simp only [Act.put, List.setIfInBounds_toArray, List.set_cons_zero, List.set_cons_succ, i64_w, i32_w]
        rfl
       refine pure_ (i := 7) (N := some 27) (v := ?_) (a' := ?_) #[true, true, true, true, false, true, true, true, false, false, false, false, false, false, false, false, false, false] rfl rfl (any_of HT_.out (by kernel_rfl)) (fun _ _ _ h => h) (Or.inl ⟨by rfl, ?_⟩) ?_ ?_
       rotate_left
       ·intro w'
        go_simp
        with_reducible rfl
       rotate_left
       ·simp only [Act.put, List.setIfInBounds_toArray, List.set_cons_zero, List.set_cons_succ, i64_w, i32_w]
        rfl
       refine pure_ (i := 9) (N := some 29) (v := ?_) (a' := ?_) #[true, true, true, true, false, true, true, true, false, true, false, false, false, false, false, false, false, false] rfl rfl (any_of HT_.out (by kernel_rfl)) (fun _ _ _ h => h) (Or.inl ⟨by rfl, ?_⟩) ?_ ?_
       rotate_left
       ·intro w'
        go_simp
        with_reducible rfl
       rotate_left
       ·simp only [Act.put, List.setIfInBounds_toArray, List.set_cons_zero, List.set_cons_succ, i64_w, i32_w]
        rfl
       refine pure_ (i := 10) (N := some 30) (v := ?_) (a' := ?_) #[true, true, true, true, false, true, true, true, false, true, true, false, false, false, false, false, false, false] rfl rfl (any_of HT_.out (by kernel_rfl)) (fun _ _ _ h => h) (Or.inl ⟨by rfl, ?_⟩) ?_ ?_
       rotate_left
       ·intro w'
        go_simp
        with_reducible rfl
       rotate_left
       ·simp only [Act.put, List.setIfInBounds_toArray, List.set_cons_zero, List.set_cons_succ, i64_w, i32_w]
        rfl
       refine pure_ (i := 11) (N := some 31) (v := ?_) (a' := ?_) #[true, true, true, true, false, true, true, true, false, true, true, true, false, false, false, false, false, false] rfl rfl (any_of HT_.out (by kernel_rfl)) (fun _ _ _ h => h) (Or.inl ⟨by rfl, ?_⟩) ?_ ?_
       rotate_left
       ·intro w'
        go_simp
        with_reducible rfl
       rotate_left
       ·simp only [Act.put, List.setIfInBounds_toArray, List.set_cons_zero, List.set_cons_succ, i64_w, i32_w]
        rfl
       refine pure_ (i := 12) (N := some 32) (v := ?_) (a' := ?_) #[true, true, true, true, false, true, true, true, false, true, true, true, true, false, false, false, false, false] rfl rfl (any_of HT_.out (by kernel_rfl)) (fun _ _ _ h => h) (Or.inl ⟨by rfl, ?_⟩) ?_ ?_
       rotate_left
       ·intro w'
        go_simp
        with_reducible rfl
       rotate_left
       ·simp only [Act.put, List.setIfInBounds_toArray, List.set_cons_zero, List.set_cons_succ, i64_w, i32_w]
        rfl
       refine take_ (i := 4) (N := some 24) (v := ?_) (a' := ?_) #[true, true, true, true, true, true, true, true, false, true, true, true, true, false, false, false, false, false] rfl rfl (take_ofW HT_.out HW_.out (by kernel_rfl)) (fun _ _ _ h => h) (Or.inl ⟨by rfl, ?_⟩) hHeld ?_ ?_
       rotate_left
       ·rintro w' ⟨s0, s1, s2, s3, s4, s5, s6, s7, s8⟩
        go_simp
        with_reducible rfl
       rotate_left
       ·simp only [Act.put, List.setIfInBounds_toArray, List.set_cons_zero, List.set_cons_succ, i64_w, i32_w]
        rfl
       refine take_ (i := 8) (N := some 28) (v := ?_) (a' := ?_) #[true, true, true, true, true, true, true, true, true, true, true, true, true, false, false, false, false, false] rfl rfl (take_ofW HT_.out HW_.out (by kernel_rfl)) (fun _ _ _ h => h) (Or.inl ⟨by rfl, ?_⟩) hHeld ?_ ?_
       rotate_left
       ·rintro w' ⟨s0, s1, s2, s3, s4, s5, s6, s7, s8⟩
        go_simp
        with_reducible rfl
       rotate_left
       ·simp only [Act.put, List.setIfInBounds_toArray, List.set_cons_zero, List.set_cons_succ, i64_w, i32_w]
        rfl
       refine take_ (i := 13) (N := some 33) (v := ?_) (a' := ?_) #[true, true, true, true, true, true, true, true, true, true, true, true, true, true, false, false, false, false] rfl rfl (take_ofW HT_.out HW_.out (by kernel_rfl)) (fun _ _ _ h => h) (Or.inl ⟨by rfl, ?_⟩) hHeld ?_ ?_
       rotate_left
       ·rintro w' ⟨s0, s1, s2, s3, s4, s5, s6, s7, s8⟩
        go_simp
        with_reducible rfl
       rotate_left
       ·simp only [Act.put, List.setIfInBounds_toArray, List.set_cons_zero, List.set_cons_succ, i64_w, i32_w]
        rfl
       refine pure_ (i := 14) (N := some 34) (v := ?_) (a' := ?_) #[true, true, true, true, true, true, true, true, true, true, true, true, true, true, true, false, false, false] rfl rfl (any_of HT_.out (by kernel_rfl)) (fun _ _ _ h => h) (Or.inl ⟨by rfl, ?_⟩) ?_ ?_
       rotate_left
       ·intro w'
        go_simp
        with_reducible rfl
       rotate_left
       ·simp only [Act.put, List.setIfInBounds_toArray, List.set_cons_zero, List.set_cons_succ, i64_w, i32_w]
        rfl
       refine one_ (i := 15) (N := some 35) #[true, true, true, true, true, true, true, true, true, true, true, true, true, true, true, true, false, false] rfl rfl (one_of HT_.out (by kernel_rfl)) (by decide) (fun K hK => ?_)
       refine goes_ Try.func48 (by kernel_rfl) rfl #[.agg #[.int .i64 ((rd_T44 l0 x6_1).f0), .int .i64 ((rd_T44 l0 x6_1).f1), .bool ((rd_T44 l0 x6_1).f2)], .int .i64 (wrap64 (((rd_T44 l0 x6_1).f1) - 1))] (by rfl) rfl rfl (by (try simp only [List.map_toArray, List.map_cons, List.map_nil]); first | done | rfl | (simp only [List.length_drop, List.length_take]; rfl)) ?_
       with_reducible refine (papermillref13_image.calls ((rd_T44 l0 x6_1).f0) ((rd_T44 l0 x6_1).f1) ((rd_T44 l0 x6_1).f2) (wrap64 (((rd_T44 l0 x6_1).f1) - 1)) t50005 _ A7.out).mono ?_
       rintro e w12 ⟨rfl, hb⟩
       refine ⟨_, rfl, ?_⟩
       have n0_ := Aside0.mk (Kd.R_below (HO_5.out) hb)
       have n1_ := Aside0.mk (below_step (by repeat (first | exact HB.out | apply below_alloc | apply pw_below_drewN | apply below_drew1)) hb)
       clear HO_5
       clear HB
       have HO_5 := n0_
       have HB := n1_
       clear n0_ n1_
       (try clear hb)
       (try clear hb2)
       (try clear hk)
       (try clear hi)
       refine hK.out _ _ ⟨((HB.out.cell (World.block_lt_of_cell? w _ hw50002_0)).trans hw50002_0), ((HB.out.cell (World.block_lt_of_cell? w _ hw50002_1)).trans hw50002_1), ((HB.out.cell (World.block_lt_of_cell? w _ hw50002_2)).trans hw50002_2), ((HB.out.cell (World.block_lt_of_cell? w _ hw50003_0)).trans hw50003_0), ((HB.out.cell (World.block_lt_of_cell? w _ hw50003_1)).trans hw50003_1), ((HB.out.cell (World.block_lt_of_cell? w _ hw50003_2)).trans hw50003_2), ((HB.out.cell (World.block_lt_of_cell? w _ hw50004_0)).trans hw50004_0), ((HB.out.cell (World.block_lt_of_cell? w _ hw50004_1)).trans hw50004_1), ((HB.out.cell (World.block_lt_of_cell? w _ hw50004_2)).trans hw50004_2)⟩ (fun hHeld => ?_)
       clear hK K
       refine norm_ (a' := ?_) ?_ ?_
       rotate_left
       ·show Act.put _ (some 35) _ = _
        simp only [Act.put, List.setIfInBounds_toArray, List.set_cons_zero, List.set_cons_succ, i64_w, i32_w]
        rfl
       refine pure_ (i := 16) (N := some 7) (v := ?_) (a' := ?_) #[true, true, true, true, true, true, true, true, true, true, true, true, true, true, true, true, true, false] rfl rfl (any_of HT_.out (by kernel_rfl)) (fun _ _ _ h => h) (Or.inl ⟨by rfl, ?_⟩) ?_ ?_
       rotate_left
       ·intro w'
        go_simp
        with_reducible rfl
       rotate_left
       ·simp only [Act.put, List.setIfInBounds_toArray, List.set_cons_zero, List.set_cons_succ, i64_w, i32_w]
        rfl
       refine pure_ (i := 17) (N := some 8) (v := ?_) (a' := ?_) #[true, true, true, true, true, true, true, true, true, true, true, true, true, true, true, true, true, true] rfl rfl (any_of HT_.out (by kernel_rfl)) (fun _ _ _ h => h) (Or.inl ⟨by rfl, ?_⟩) ?_ ?_
       rotate_left
       ·intro w'
        go_simp
        with_reducible rfl
       rotate_left
       ·simp only [Act.put, List.setIfInBounds_toArray, List.set_cons_zero, List.set_cons_succ, i64_w, i32_w]
        rfl
       refine done_ (done_of HT_.out (by kernel_rfl)) ?_
       try go_wp2_with (first | ((with_reducible refine gate_builtin (b := .append) (xs := #[.tmp 36, .tmp 45]) rfl ?_); at_builtin; refine Kd.R_append k55 (w0 := w) w.heap.size rfl (.tmp 36) (.tmp 45) 29 55 (.agg #[(.int .i64 0), (.int .i64 0)]) 16 rfl Try.underlying29 info55 rfl (by decide) (by omega) u5 x5_1 (⟨ji8, wrap64 ((ji9) + 1)⟩ : S55) [.int .i64 ji8, .int .i64 (wrap64 ((ji9) + 1))] (fun _ => True) (fun _ => False) rfl rfl ?aP (fun _ hk => hk.elim) ?aF ?aO ?aB ?aS ?aL ?_; (case aP => exact k55_mkM _ _ _ (⟨ji8, wrap64 ((ji9) + 1)⟩ : S55)); (case aB => exact (by repeat (first | exact HB.out | apply below_alloc | apply pw_below_drewN | apply below_drew1))); (case aF => exact (fun _ _ => trivial)); (case aO => exact (HO_5.out)); (case aS => exact (below_size (by repeat (first | exact HB.out | apply below_alloc | apply pw_below_drewN | apply below_drew1)))); (case aL => have := LMc10.out; omega); intro v50007 w13 ho hb hg hat; rw [← Ny50006.out] at ho; have n0_ := Aside0.mk (hb); have n1_ := Aside0.mk (ho); clear HB; clear HO_5; have HB := n0_; have HO50008 := n1_; clear n0_ n1_; clear ho hb hg hat))
       go_roundg k1
       case measure => have := HK1.out; omega
       case rel => exact ⟨(y50006), (wrap64 (x6_1 + 1)), (by first | rfl | (simp; done) | (simp [*]; done)), H', ⟨by have := HK1.out; omega⟩, ⟨HO50008.out⟩, ⟨by repeat (first | exact HB.out | apply below_alloc | apply pw_below_drewN | apply below_drew1)⟩⟩
      ·rw [if_neg c10] at H
       exact absurd H (by simp)
     ·rw [if_neg c6] at H
      exact absurd H (by simp)
    ·rw [if_neg c5] at H
     have c5b0 : decide (x6_1 < (l0.length : Int)) = false := decide_eq_false c5
     clear c5
     replace H := Option.bind_eq_some_iff.mp H
     obtain ⟨⟨t50009, t50010⟩, A140, H⟩ := H
     replace H : (some (t50009, t50010)) = some (r1, r2) := H
     have A14 := Aside0.mk A140
     clear A140
     simp only [Option.some.injEq, Prod.mk.injEq] at H
     obtain ⟨rfl, rfl⟩ := H
     obtain ⟨Ao15, co15, eo15⟩ := Kd.R_slice HO_5.out
     subst eo15
     go_wp2_with (first | ((with_reducible refine gate_callee (f := 58) rfl ?_); refine goesL_ (some 48) rfl rfl Try.func58 (by kernel_rfl) rfl #[.slice Ao15 x5_1.length co15] rfl (by (try simp only [List.map_toArray, List.map_cons, List.map_nil]); first | done | rfl | (simp only [List.length_drop, List.length_take]; rfl)) ?_; (with_reducible refine (papermillref04_Norm.calls k1 _ _ x5_1 t50009 t50010 _ ?side1 ?side2 A14.out).mono ?_); (case side1 => exact (Kd.R_reads' HO_5.out).2.2); (case side2 => exact (Kd.R_reads' HO_5.out).2.1); rintro e w16 ⟨v50011, rfl, ho0, hb⟩; refine ⟨_, rfl, ?_⟩; have n0_ := Aside0.mk (Kd.R_elder' (HO_5.out) (Kd.R_base ho0) hb); have n1_ := Aside0.mk (Kd.R_lower (Kd.R_new' ho0 (Kd.R_lt (HO_5.out))) (below_size (by repeat (first | exact HB.out | apply below_alloc | apply pw_below_drewN | apply below_drew1)))); have n2_ := Aside0.mk (below_step (by repeat (first | exact HB.out | apply below_alloc | apply pw_below_drewN | apply below_drew1)) hb); clear HO_5; clear HB; have HO_5 := n0_; have HO50012 := n1_; have HB := n2_; clear n0_ n1_ n2_; (try clear hb); (try clear hb2); (try clear hk); (try clear hi); (try clear ho0)))
     go_ret2
     exact ⟨_, by first | rfl | (simp [errW_none, errW_some] <;> rfl) | (simp [*, errW_none, errW_some] <;> rfl), by exact Kd.R_mono HO50012.out (fun _ hk => trivial), by repeat (first | exact HB.out | apply below_alloc | apply pw_below_drewN | apply below_drew1)⟩
 ·rw [if_neg c3] at H
  have c3b0 : (t50001 == 0) = false := beq_eq_false_iff_ne.mpr c3
  have c3b1 : (t50001 != 0) = true := bne_iff_ne.mpr c3
  simp only [Option.some.injEq, Prod.mk.injEq] at H
  obtain ⟨rfl, rfl⟩ := H
  go_enter Try.func49, Try.ntmps49
  go_wp2_with (first | ((with_reducible refine gate_callee (f := 25) rfl ?_); refine goesL_ (some 10) rfl rfl Try.func25 (by kernel_rfl) rfl #[.slice A0 l0.length c0] rfl (by (try simp only [List.map_toArray, List.map_cons, List.map_nil]); first | done | rfl | (simp only [List.length_drop, List.length_take]; rfl)) ?_; (with_reducible refine (papermillref13_Check.calls k _ _ l0 t50001 _ ?side1 ?side2 A2.out).mono ?_); (case side1 => exact HR0.out); (case side2 => exact HC0.out); rintro e w17 ⟨rfl, hb⟩; refine ⟨_, rfl, ?_⟩; have n0_ := Aside0.mk (below_step (by repeat (first | exact HB.out | apply below_alloc | apply pw_below_drewN | apply below_drew1)) hb); clear HB; have HB := n0_; clear n0_; (try clear hb); (try clear hb2); (try clear hk); (try clear hi)))
  go_ret2
  exact ⟨_, by first | rfl | (simp [errW_none, errW_some] <;> rfl) | (simp [*, errW_none, errW_some] <;> rfl), by first | exact Kd.R_nil _ _ _ _ _ | exact Kd.N_nil _ _ _ _ _ | exact Kd.V_nil _ _ _ _ _ | exact Kd.Q_nil _ _ _ _ _ | exact Kd.S_nil _ _ _ _ _, by repeat (first | exact HB.out | apply below_alloc | apply pw_below_drewN | apply below_drew1)⟩

end Go.Proofs.Ytalpegglbfobiaa.G

namespace Go.Proofs.Ytalpegglbfobiaa.G
open Go.RowKit Go.Proofs.YtalpegglbfobiaaW.PrintWords Go.Proofs.YtalpegglbfobiaaW.PrintLast Go.Proofs.YtalpegglbfobiaaW.PrintMore
attribute [local go_sem] max2_int min2_int max_two min_two max_three min_three max_four min_four   -- for this text's walks alone
set_option linter.unusedVariables false
set_option linter.unusedSimpArgs false

def papermillref04_Total.l0 : Nat → List (S55) → Int → Int → Int → Option (Int × Int)
 | 0, _, _, _, _ => none
 | k + 1, x4, x5, x6, x7 => if x7 < (x4.length : Int) then (if 0 ≤ x7 then (papermillref04_Total.l0 k x4 x5 (wrap64 ((wrap64 (x6 + ((rd_T55 x4 x7).f1))) - ((rd_T55 x4 x7).f0))) (wrap64 (x7 + 1))) else (none)) else (some (x6, x5))
def papermillref04_Total.f (k : Nat) (l0 : List (S55)) : Option (Int × Int) := (papermillref04_Norm.f k l0).bind fun bt51001 => (papermillref04_Total.l0 k bt51001.1 bt51001.2 0 0)
set_option maxHeartbeats 8000000 in
set_option maxRecDepth 100000 in
theorem papermillref04_Total.calls (k : Nat) (A0 : Option Addr) (c0 : Nat) (l0 : List (S55)) (r1 : Int) (r2 : Int) (w : World) (hr0 : Kd.C k55 w A0 l0.length l0) (hc0 : l0.length ≤ c0) (h : papermillref04_Total.f k l0 = some (r1, r2)) :
  Calls Try.prog 50 #[.slice A0 l0.length c0] w fun e w' => e = .returned (.tuple #[.int .i64 r1, .int .i64 r2]) ∧ Below w.heap.size w w' := by
 have HR0 := Aside0.mk hr0
 have HC0 := Aside0.mk hc0
 clear hr0 hc0
 have HB := Aside0.mk (Below.refl w.heap.size w)
 have H : ((papermillref04_Norm.f k l0).bind fun bt51001 => (papermillref04_Total.l0 k bt51001.1 bt51001.2 0 0)) = some (r1, r2) := h
 clear h
 replace H := Option.bind_eq_some_iff.mp H
 obtain ⟨⟨t51001, t51002⟩, A20, H⟩ := H
 replace H : (papermillref04_Total.l0 k t51001 t51002 0 0) = some (r1, r2) := H
 have A2 := Aside0.mk A20
 clear A20
 have H' := Aside0.mk H
 clear H
 go_enter Try.func50, Try.ntmps50
 go_wp2_with (first | (go_at_call 58; (with_reducible refine (papermillref04_Norm.calls k _ _ l0 t51001 t51002 _ ?side1 ?side2 A2.out).mono ?_); (case side1 => exact HR0.out); (case side2 => exact HC0.out); rintro e w3 ⟨v51003, rfl, ho0, hb⟩; have n0_ := Aside0.mk (Kd.R_lower ho0 (below_size (by repeat (first | exact HB.out | apply below_alloc | apply pw_below_drewN | apply below_drew1)))); have n1_ := Aside0.mk (below_step (by repeat (first | exact HB.out | apply below_alloc | apply pw_below_drewN | apply below_drew1)) hb); clear HB; have HO51004 := n0_; have HB := n1_; clear n0_ n1_; (try clear hb); (try clear hb2); (try clear hk); (try clear hi); (try clear ho0)))
 repeat (go_quiet (first | (go_at_call 58; (with_reducible refine (papermillref04_Norm.calls k _ _ l0 t51001 t51002 _ ?side1 ?side2 A2.out).mono ?_); (case side1 => exact HR0.out); (case side2 => exact HC0.out); rintro e w3 ⟨v51003, rfl, ho0, hb⟩; have n0_ := Aside0.mk (Kd.R_lower ho0 (below_size (by repeat (first | exact HB.out | apply below_alloc | apply pw_below_drewN | apply below_drew1)))); have n1_ := Aside0.mk (below_step (by repeat (first | exact HB.out | apply below_alloc | apply pw_below_drewN | apply below_drew1)) hb); clear HB; have HO51004 := n0_; have HB := n1_; clear n0_ n1_; (try clear hb); (try clear hb2); (try clear hk); (try clear hi); (try clear ho0))); try go_wp2_with (first | (go_at_call 58; (with_reducible refine (papermillref04_Norm.calls k _ _ l0 t51001 t51002 _ ?side1 ?side2 A2.out).mono ?_); (case side1 => exact HR0.out); (case side2 => exact HC0.out); rintro e w3 ⟨v51003, rfl, ho0, hb⟩; have n0_ := Aside0.mk (Kd.R_lower ho0 (below_size (by repeat (first | exact HB.out | apply below_alloc | apply pw_below_drewN | apply below_drew1)))); have n1_ := Aside0.mk (below_step (by repeat (first | exact HB.out | apply below_alloc | apply pw_below_drewN | apply below_drew1)) hb); clear HB; have HO51004 := n0_; have HB := n1_; clear n0_ n1_; (try clear hb); (try clear hb2); (try clear hk); (try clear hi); (try clear ho0))))
 go_loopg [6, 7] k (fun kq v6 v7 w' => ∃ (x6_1 : Int) (x7_1 : Int), v6 = .int .i64 x6_1 ∧ v7 = .int .i64 x7_1 ∧ Aside0 (papermillref04_Total.l0 kq t51001 t51002 x6_1 x7_1 = some (r1, r2)) ∧ Aside0 (kq ≤ k) ∧ Aside0 (Kd.R k55 55 w' w.heap.size (fun _ => True) v51003 t51001) ∧ Aside0 (Below w.heap.size w w'))
 case atStart => exact ⟨(0), (0), (by first | rfl | (simp; done) | (simp [*]; done)), (by first | rfl | (simp; done) | (simp [*]; done)), H', ⟨Nat.le_refl _⟩, ⟨HO51004.out⟩, ⟨by repeat (first | exact HB.out | apply below_alloc | apply pw_below_drewN | apply below_drew1)⟩⟩
 case round =>
  clear H'
  try clear p2
  obtain ⟨x6_1, x7_1, rfl, rfl, HA, HK1, HO_4, HB⟩ := hrel
  cases gk with
  | zero => exact absurd HA.out (by simp [papermillref04_Total.l0])
  | succ k1 =>
   have H := HA.out
   clear HA
   simp only [papermillref04_Total.l0] at H
   by_cases c4 : x7_1 < (t51001.length : Int)
   ·rw [if_pos c4] at H
    have c4b0 : decide (x7_1 < (t51001.length : Int)) = true := decide_eq_true c4
    clear c4
    by_cases c5 : 0 ≤ x7_1
    ·rw [if_pos c5] at H
     have c5b0 : decide (0 ≤ x7_1) = true := decide_eq_true c5
     clear c5
     have H' := Aside0.mk H
     clear H
     obtain ⟨Ao6, co6, eo6⟩ := Kd.R_slice HO_4.out
     subst eo6
     have p51005 : 0 ≤ (x7_1 : Int) := of_decide_eq_true (by assumption)
     have q51005 : x7_1 < (t51001.length : Int) := of_decide_eq_true (by assumption)
     obtain ⟨ad51005, e51005, hx51005_0, hx51005_1⟩ := at_T55 (Kd.R_reads' HO_4.out).2.2 x7_1 p51005 q51005
     cases e51005
     replace p51005 := eq_true p51005
     replace q51005 := eq_true q51005
     have p51006 : 0 ≤ (x7_1 : Int) := of_decide_eq_true (by assumption)
     have q51006 : x7_1 < (t51001.length : Int) := of_decide_eq_true (by assumption)
     obtain ⟨ad51006, e51006, hx51006_0, hx51006_1⟩ := at_T55 (Kd.R_reads' HO_4.out).2.2 x7_1 p51006 q51006
     obtain rfl : ad51005 = ad51006 := (by injection e51006)
     replace p51006 := eq_true p51006
     replace q51006 := eq_true q51006
     go_wp2
     repeat (go_quiet (fail); try go_wp2)
     go_roundg k1
     case measure => have := HK1.out; omega
     case rel => exact ⟨(wrap64 ((wrap64 (x6_1 + ((rd_T55 t51001 x7_1).f1))) - ((rd_T55 t51001 x7_1).f0))), (wrap64 (x7_1 + 1)), (by first | rfl | (simp; done) | (simp [*]; done)), (by first | rfl | (simp; done) | (simp [*]; done)), H', ⟨by have := HK1.out; omega⟩, ⟨HO_4.out⟩, ⟨by repeat (first | exact HB.out | apply below_alloc | apply pw_below_drewN | apply below_drew1)⟩⟩
    ·rw [if_neg c5] at H
     exact absurd H (by simp)
   ·rw [if_neg c4] at H
    have c4b0 : decide (x7_1 < (t51001.length : Int)) = false := decide_eq_false c4
    clear c4
    simp only [Option.some.injEq, Prod.mk.injEq] at H
    obtain ⟨rfl, rfl⟩ := H
    obtain ⟨Ao7, co7, eo7⟩ := Kd.R_slice HO_4.out
    subst eo7
    go_wp2
    repeat (go_quiet (fail); try go_wp2)
    go_ret2
    exact ⟨by first | rfl | (simp [errW_none, errW_some] <;> rfl) | (simp [*, errW_none, errW_some] <;> rfl), by repeat (first | exact HB.out | apply below_alloc | apply pw_below_drewN | apply below_drew1)⟩

end Go.Proofs.Ytalpegglbfobiaa.G

namespace Go.Proofs.Ytalpegglbfobiaa.G
open Go.RowKit Go.Proofs.YtalpegglbfobiaaW.PrintWords Go.Proofs.YtalpegglbfobiaaW.PrintLast Go.Proofs.YtalpegglbfobiaaW.PrintMore
attribute [local go_sem] max2_int min2_int max_two min_two max_three min_three max_four min_four   -- for this text's walks alone
set_option linter.unusedVariables false
set_option linter.unusedSimpArgs false

def papermillref13_Single.f (k : Nat) (l0 : List (S44)) : Option (Bool) := (papermillref13_Check.f k l0).bind fun t29001 => (if t29001 = 0 then ((papermillref13_Image.f k l0).bind fun bt29002 => ((papermillref04_Total.f k bt29002.1).bind fun bt29006 => (if bt29006.2 = 0 then ((papermillref13_length.f k l0).bind fun t29008 => (some (bt29006.1 == t29008))) else (some false)))) else (some false))
set_option maxHeartbeats 8000000 in
set_option maxRecDepth 100000 in
theorem papermillref13_Single.calls (k : Nat) (A0 : Option Addr) (c0 : Nat) (l0 : List (S44)) (r : Bool) (w : World) (hr0 : Kd.C k44 w A0 l0.length l0) (hc0 : l0.length ≤ c0) (h : papermillref13_Single.f k l0 = some r) :
  Calls Try.prog 28 #[.slice A0 l0.length c0] w fun e w' => e = .returned (.bool r) ∧ Below w.heap.size w w' := by
 have HR0 := Aside0.mk hr0
 have HC0 := Aside0.mk hc0
 clear hr0 hc0
 have HB := Aside0.mk (Below.refl w.heap.size w)
 have H : ((papermillref13_Check.f k l0).bind fun t29001 => (if t29001 = 0 then ((papermillref13_Image.f k l0).bind fun bt29002 => ((papermillref04_Total.f k bt29002.1).bind fun bt29006 => (if bt29006.2 = 0 then ((papermillref13_length.f k l0).bind fun t29008 => (some (bt29006.1 == t29008))) else (some false)))) else (some false))) = some r := h
 clear h
 replace H := Option.bind_eq_some_iff.mp H
 obtain ⟨t29001, A20, H⟩ := H
 replace H : (if t29001 = 0 then ((papermillref13_Image.f k l0).bind fun bt29002 => ((papermillref04_Total.f k bt29002.1).bind fun bt29006 => (if bt29006.2 = 0 then ((papermillref13_length.f k l0).bind fun t29008 => (some (bt29006.1 == t29008))) else (some false)))) else (some false)) = some r := H
 have A2 := Aside0.mk A20
 clear A20
 by_cases c3 : t29001 = 0
 ·rw [if_pos c3] at H
  have c3b0 : (t29001 == 0) = true := beq_iff_eq.mpr c3
  have c3b1 : (t29001 != 0) = false := bne_eq_false_iff_eq.mpr c3
  clear c3
  replace H := Option.bind_eq_some_iff.mp H
  obtain ⟨⟨t29002, t29003⟩, A40, H⟩ := H
  replace H : ((papermillref04_Total.f k t29002).bind fun bt29006 => (if bt29006.2 = 0 then ((papermillref13_length.f k l0).bind fun t29008 => (some (bt29006.1 == t29008))) else (some false))) = some r := H
  have A4 := Aside0.mk A40
  clear A40
  replace H := Option.bind_eq_some_iff.mp H
  obtain ⟨⟨t29006, t29007⟩, A50, H⟩ := H
  replace H : (if t29007 = 0 then ((papermillref13_length.f k l0).bind fun t29008 => (some (t29006 == t29008))) else (some false)) = some r := H
  have A5 := Aside0.mk A50
  clear A50
  by_cases c6 : t29007 = 0
  ·rw [if_pos c6] at H
   have c6b0 : (t29007 == 0) = true := beq_iff_eq.mpr c6
   have c6b1 : (t29007 != 0) = false := bne_eq_false_iff_eq.mpr c6
   clear c6
   replace H := Option.bind_eq_some_iff.mp H
   obtain ⟨t29008, A70, H⟩ := H
   replace H : (some (t29006 == t29008)) = some r := H
   have A7 := Aside0.mk A70
   clear A70
   obtain rfl := Option.some.inj H
   go_enter Try.func28, Try.ntmps28
   go_wp2_with (first | ((with_reducible refine gate_callee (f := 25) rfl ?_); refine goesL_ (some 8) rfl rfl Try.func25 (by kernel_rfl) rfl #[.slice A0 l0.length c0] rfl (by (try simp only [List.map_toArray, List.map_cons, List.map_nil]); first | done | rfl | (simp only [List.length_drop, List.length_take]; rfl)) ?_; (with_reducible refine (papermillref13_Check.calls k _ _ l0 t29001 _ ?side1 ?side2 A2.out).mono ?_); (case side1 => exact HR0.out); (case side2 => exact HC0.out); rintro e w8 ⟨rfl, hb⟩; refine ⟨_, rfl, ?_⟩; have n0_ := Aside0.mk (below_step (by repeat (first | exact HB.out | apply below_alloc | apply pw_below_drewN | apply below_drew1)) hb); clear HB; have HB := n0_; clear n0_; (try clear hb); (try clear hb2); (try clear hk); (try clear hi)) | ((with_reducible refine gate_callee (f := 49) rfl ?_); refine goesL_ (some 12) rfl rfl Try.func49 (by kernel_rfl) rfl #[.slice A0 l0.length c0] rfl (by (try simp only [List.map_toArray, List.map_cons, List.map_nil]); first | done | rfl | (simp only [List.length_drop, List.length_take]; rfl)) ?_; (with_reducible refine (papermillref13_Image.calls k _ _ l0 t29002 t29003 _ ?side1 ?side2 A4.out).mono ?_); (case side1 => exact (Kd.C_below HR0.out HB.out)); (case side2 => exact HC0.out); rintro e w9 ⟨v29004, rfl, ho0, hb⟩; refine ⟨_, rfl, ?_⟩; have n0_ := Aside0.mk (Kd.R_lower ho0 (below_size (by repeat (first | exact HB.out | apply below_alloc | apply pw_below_drewN | apply below_drew1)))); have n1_ := Aside0.mk (below_step (by repeat (first | exact HB.out | apply below_alloc | apply pw_below_drewN | apply below_drew1)) hb); clear HB; have HO29005 := n0_; have HB := n1_; clear n0_ n1_; (try clear hb); (try clear hb2); (try clear hk); (try clear hi); (try clear ho0); obtain ⟨Ao10, co10, eo10⟩ := Kd.R_slice HO29005.out; subst eo10) | ((with_reducible refine gate_callee (f := 50) rfl ?_); refine goesL_ (some 17) rfl rfl Try.func50 (by kernel_rfl) rfl #[.slice Ao10 t29002.length co10] rfl (by (try simp only [List.map_toArray, List.map_cons, List.map_nil]); first | done | rfl | (simp only [List.length_drop, List.length_take]; rfl)) ?_; (with_reducible refine (papermillref04_Total.calls k _ _ t29002 t29006 t29007 _ ?side1 ?side2 A5.out).mono ?_); (case side1 => exact (Kd.R_reads' HO29005.out).2.2); (case side2 => exact (Kd.R_reads' HO29005.out).2.1); rintro e w11 ⟨rfl, hb⟩; refine ⟨_, rfl, ?_⟩; have n0_ := Aside0.mk (Kd.R_below (HO29005.out) hb); have n1_ := Aside0.mk (below_step (by repeat (first | exact HB.out | apply below_alloc | apply pw_below_drewN | apply below_drew1)) hb); clear HO29005; clear HB; have HO29005 := n0_; have HB := n1_; clear n0_ n1_; (try clear hb); (try clear hb2); (try clear hk); (try clear hi)) | (go_at_call 46; (with_reducible refine (papermillref13_length.calls k _ _ l0 t29008 _ ?side1 ?side2 A7.out).mono ?_); (case side1 => exact (Kd.C_below HR0.out HB.out)); (case side2 => exact HC0.out); rintro e w' ⟨rfl, ⟨nd, rfl⟩⟩))
   go_ret
   exact ⟨by first | rfl | (simp [errW_none, errW_some] <;> rfl) | (simp [*, errW_none, errW_some] <;> rfl), by repeat (first | exact HB.out | apply below_alloc | apply pw_below_drewN | apply below_drew1)⟩
  ·rw [if_neg c6] at H
   have c6b0 : (t29007 == 0) = false := beq_eq_false_iff_ne.mpr c6
   have c6b1 : (t29007 != 0) = true := bne_iff_ne.mpr c6
   obtain rfl := Option.some.inj H
   go_enter Try.func28, Try.ntmps28
   go_wp2_with (first | ((with_reducible refine gate_callee (f := 25) rfl ?_); refine goesL_ (some 8) rfl rfl Try.func25 (by kernel_rfl) rfl #[.slice A0 l0.length c0] rfl (by (try simp only [List.map_toArray, List.map_cons, List.map_nil]); first | done | rfl | (simp only [List.length_drop, List.length_take]; rfl)) ?_; (with_reducible refine (papermillref13_Check.calls k _ _ l0 t29001 _ ?side1 ?side2 A2.out).mono ?_); (case side1 => exact HR0.out); (case side2 => exact HC0.out); rintro e w12 ⟨rfl, hb⟩; refine ⟨_, rfl, ?_⟩; have n0_ := Aside0.mk (below_step (by repeat (first | exact HB.out | apply below_alloc | apply pw_below_drewN | apply below_drew1)) hb); clear HB; have HB := n0_; clear n0_; (try clear hb); (try clear hb2); (try clear hk); (try clear hi)) | ((with_reducible refine gate_callee (f := 49) rfl ?_); refine goesL_ (some 12) rfl rfl Try.func49 (by kernel_rfl) rfl #[.slice A0 l0.length c0] rfl (by (try simp only [List.map_toArray, List.map_cons, List.map_nil]); first | done | rfl | (simp only [List.length_drop, List.length_take]; rfl)) ?_; (with_reducible refine (papermillref13_Image.calls k _ _ l0 t29002 t29003 _ ?side1 ?side2 A4.out).mono ?_); (case side1 => exact (Kd.C_below HR0.out HB.out)); (case side2 => exact HC0.out); rintro e w13 ⟨v29004, rfl, ho0, hb⟩; refine ⟨_, rfl, ?_⟩; have n0_ := Aside0.mk (Kd.R_lower ho0 (below_size (by repeat (first | exact HB.out | apply below_alloc | apply pw_below_drewN | apply below_drew1)))); have n1_ := Aside0.mk (below_step (by repeat (first | exact HB.out | apply below_alloc | apply pw_below_drewN | apply below_drew1)) hb); clear HB; have HO29005 := n0_; have HB := n1_; clear n0_ n1_; (try clear hb); (try clear hb2); (try clear hk); (try clear hi); (try clear ho0); obtain ⟨Ao14, co14, eo14⟩ := Kd.R_slice HO29005.out; subst eo14) | ((with_reducible refine gate_callee (f := 50) rfl ?_); refine goesL_ (some 17) rfl rfl Try.func50 (by kernel_rfl) rfl #[.slice Ao14 t29002.length co14] rfl (by (try simp only [List.map_toArray, List.map_cons, List.map_nil]); first | done | rfl | (simp only [List.length_drop, List.length_take]; rfl)) ?_; (with_reducible refine (papermillref04_Total.calls k _ _ t29002 t29006 t29007 _ ?side1 ?side2 A5.out).mono ?_); (case side1 => exact (Kd.R_reads' HO29005.out).2.2); (case side2 => exact (Kd.R_reads' HO29005.out).2.1); rintro e w15 ⟨rfl, hb⟩; refine ⟨_, rfl, ?_⟩; have n0_ := Aside0.mk (Kd.R_below (HO29005.out) hb); have n1_ := Aside0.mk (below_step (by repeat (first | exact HB.out | apply below_alloc | apply pw_below_drewN | apply below_drew1)) hb); clear HO29005; clear HB; have HO29005 := n0_; have HB := n1_; clear n0_ n1_; (try clear hb); (try clear hb2); (try clear hk); (try clear hi)))
   go_ret
   exact ⟨by first | rfl | (simp [errW_none, errW_some] <;> rfl) | (simp [*, errW_none, errW_some] <;> rfl), by repeat (first | exact HB.out | apply below_alloc | apply pw_below_drewN | apply below_drew1)⟩
 ·rw [if_neg c3] at H
  have c3b0 : (t29001 == 0) = false := beq_eq_false_iff_ne.mpr c3
  have c3b1 : (t29001 != 0) = true := bne_iff_ne.mpr c3
  obtain rfl := Option.some.inj H
  go_enter Try.func28, Try.ntmps28
  go_wp2_with (first | ((with_reducible refine gate_callee (f := 25) rfl ?_); refine goesL_ (some 8) rfl rfl Try.func25 (by kernel_rfl) rfl #[.slice A0 l0.length c0] rfl (by (try simp only [List.map_toArray, List.map_cons, List.map_nil]); first | done | rfl | (simp only [List.length_drop, List.length_take]; rfl)) ?_; (with_reducible refine (papermillref13_Check.calls k _ _ l0 t29001 _ ?side1 ?side2 A2.out).mono ?_); (case side1 => exact HR0.out); (case side2 => exact HC0.out); rintro e w16 ⟨rfl, hb⟩; refine ⟨_, rfl, ?_⟩; have n0_ := Aside0.mk (below_step (by repeat (first | exact HB.out | apply below_alloc | apply pw_below_drewN | apply below_drew1)) hb); clear HB; have HB := n0_; clear n0_; (try clear hb); (try clear hb2); (try clear hk); (try clear hi)))
  go_ret
  exact ⟨by first | rfl | (simp [errW_none, errW_some] <;> rfl) | (simp [*, errW_none, errW_some] <;> rfl), by repeat (first | exact HB.out | apply below_alloc | apply pw_below_drewN | apply below_drew1)⟩

end Go.Proofs.Ytalpegglbfobiaa.G

namespace Go.Proofs.Ytalpegglbfobiaa.G
open Go.RowKit Go.Proofs.YtalpegglbfobiaaW.PrintWords Go.Proofs.YtalpegglbfobiaaW.PrintLast Go.Proofs.YtalpegglbfobiaaW.PrintMore
set_option linter.unusedVariables false
set_option linter.unusedSimpArgs false
def rewind_After_2.f (k : Nat) (l0 l1 : List S44) : Option (List S44 × Int) := rewind_After.f k [l0, l1]
theorem rewind_After_2.calls (k : Nat) (A0 : Option Addr) (c0 : Nat) (l0 : List (S44)) (A1 : Option Addr) (c1 : Nat) (l1 : List (S44)) (r1 : List (S44)) (r2 : Int) (w : World) (hr0 : Kd.C k44 w A0 l0.length l0) (hc0 : l0.length ≤ c0) (hr1 : Kd.C k44 w A1 l1.length l1) (hc1 : l1.length ≤ c1) (h : rewind_After_2.f k l0 l1 = some (r1, r2)) :
  Calls Try.prog 21 #[.slice (some ⟨w.heap.size, 0, none⟩) 2 2] (w.alloc (.cells #[.slice A0 l0.length c0, .slice A1 l1.length c1] 22)) fun e w' => ∃ v0_ : Value, e = .returned (.tuple #[v0_, .int .i64 r2]) ∧ Kd.R k44 44 w' w.heap.size (fun _ => True) v0_ r1 ∧ Below w.heap.size w w' := by
 generalize hw : w.alloc (.cells #[.slice A0 l0.length c0, .slice A1 l1.length c1] 22) = W
 have hb : Below w.heap.size w W := by rw [← hw]; exact (Below.refl _ _).alloc (Nat.le_refl _) _
 have hq : W.heap[w.heap.size]? = some (.cells #[.slice A0 l0.length c0, .slice A1 l1.length c1] 22 (0, 0)) := by rw [← hw]; exact World.alloc_heap_new w _
 have hC : Kd.C (Kd.slice 44 k44) W (some ⟨w.heap.size, 0, none⟩) ([l0, l1] : List (List S44)).length [l0, l1] := by
  refine ⟨rfl, by simp, fun _ => ⟨_, rfl, fun j p hj => ?_⟩⟩
  match j, hj with
  | 0, hj =>
   obtain rfl : l0 = p := by simpa using hj
   refine ⟨[.slice A0 l0.length c0], rfl, ⟨A0, c0, rfl, hc0, Kd.C_below hr0 hb⟩, fun q u hu => ?_⟩
   match q, hu with
   | 0, hu => rw [← hu]; exact blk_cell hq 0
  | 1, hj =>
   obtain rfl : l1 = p := by simpa using hj
   refine ⟨[.slice A1 l1.length c1], rfl, ⟨A1, c1, rfl, hc1, Kd.C_below hr1 hb⟩, fun q u hu => ?_⟩
   match q, hu with
   | 0, hu => rw [← hu, add_plain]; exact blk_cell hq 1
 refine (rewind_After.calls k (some ⟨w.heap.size, 0, none⟩) 2 [l0, l1] r1 r2 W hC (Nat.le_refl 2) h).mono ?_
 rintro e w' ⟨v, rfl, hR, hB⟩
 exact ⟨v, rfl, Kd.R_lower hR hb.size, hb.trans (hB.mono hb.size)⟩
end Go.Proofs.Ytalpegglbfobiaa.G
