import Derived.Test.YtalpegglbfobiaaQ1
import Derived.Test.YtalpegglbfobiaaQ4
import Derived.Test.YtalpegglbfobiaaQ5
import Derived.Deep.Slices
import Derived.Deep.Fields
import Derived.ChangeSame
import Derived.ChangeArms
import Derived.Test.YtalpegglbfobiaaQ3
namespace Go.Proofs.Ytalpegglbfobiaa.G
open Go.RowKit Go.Proofs.YtalpegglbfobiaaW.PrintWords Go.Proofs.YtalpegglbfobiaaW.PrintLast Go.Proofs.YtalpegglbfobiaaW.PrintMore
attribute [local go_sem] max2_int min2_int max_two min_two max_three min_three max_four min_four   -- for this text's walks alone
set_option linter.unusedVariables false
set_option linter.unusedSimpArgs false

def papermillref13_good.j0 : Nat → Bool → Int → Int → Bool → Option (Bool)
 | 0, _, _, _, _ => none
 | k + 1, x20, x46002000, x46002001, x46002002 => if x20 = true then (some false) else (if x46002002 = true then (some (decide ((wrap64 ((wrap64 (x46002000 - x46002001)) + 1)) ≥ 0))) else (some (decide ((wrap64 (x46002000 + x46002001)) ≤ 17179869184))))
def papermillref13_good.f (k : Nat) (a0_0 : Int) (a0_1 : Int) (a0_2 : Bool) : Option (Bool) := if a0_1 < 1 then (papermillref13_good.j0 k true a0_0 a0_1 a0_2) else (if a0_1 > 17179869184 then (papermillref13_good.j0 k true a0_0 a0_1 a0_2) else (if a0_0 < 0 then (papermillref13_good.j0 k true a0_0 a0_1 a0_2) else (papermillref13_good.j0 k (decide (a0_0 ≥ 17179869184)) a0_0 a0_1 a0_2)))
theorem papermillref13_good.mono_l : ∀ k, (∀ y0 y1 y2 y3, LeO (papermillref13_good.j0 k y0 y1 y2 y3) (papermillref13_good.j0 (k + 1) y0 y1 y2 y3))
 | 0 => fun _ _ _ _ r h => by simp [papermillref13_good.j0] at h
 | k + 1 => by
  have ih0 := papermillref13_good.mono_l k
  ·intro y0 y1 y2 y3
   unfold papermillref13_good.j0
   repeat' first
   | (with_reducible exact ih0 _ _ _ _)
   | (with_reducible exact LeO.refl _)
   | (with_reducible exact LeO.none _)
   | (with_reducible refine LeO.ite ?_ ?_)
   | (with_reducible refine LeO.bind ?_ (fun _ => ?_))
   | exact ih0 _ _ _ _
   | exact LeO.none _
   | refine LeO.ite ?_ ?_
   | refine LeO.bind ?_ (fun _ => ?_)
theorem papermillref13_good.mono : ∀ a0 a1 a2 k, LeO (papermillref13_good.f k a0 a1 a2) (papermillref13_good.f (k + 1) a0 a1 a2) := by
 intro a0 a1 a2 k
 have ih0 := papermillref13_good.mono_l k
 unfold papermillref13_good.f
 repeat' first
   | (with_reducible exact ih0 _ _ _ _)
   | (with_reducible exact LeO.refl _)
   | (with_reducible exact LeO.none _)
   | (with_reducible refine LeO.ite ?_ ?_)
   | (with_reducible refine LeO.bind ?_ (fun _ => ?_))
   | exact ih0 _ _ _ _
   | exact LeO.none _
   | refine LeO.ite ?_ ?_
   | refine LeO.bind ?_ (fun _ => ?_)
set_option maxHeartbeats 8000000 in
set_option maxRecDepth 100000 in
theorem papermillref13_good.calls (k : Nat) (a0_0 : Int) (a0_1 : Int) (a0_2 : Bool) (r : Bool) (w : World) (h : papermillref13_good.f k a0_0 a0_1 a0_2 = some r) :
  Calls Try.prog 45 #[.agg #[.int .i64 a0_0, .int .i64 a0_1, .bool a0_2]] w fun e w' => e = .returned (.bool r) ∧ Below w.heap.size w w' := by
 have hu44 := Try.underlying44
 have HB := Aside0.mk (Below.refl w.heap.size w)
 have H : (if a0_1 < 1 then (papermillref13_good.j0 k true a0_0 a0_1 a0_2) else (if a0_1 > 17179869184 then (papermillref13_good.j0 k true a0_0 a0_1 a0_2) else (if a0_0 < 0 then (papermillref13_good.j0 k true a0_0 a0_1 a0_2) else (papermillref13_good.j0 k (decide (a0_0 ≥ 17179869184)) a0_0 a0_1 a0_2)))) = some r := h
 clear h
 have HC2 := Aside0.mk H
 clear H
 go_enter Try.func45, Try.ntmps45
 go_upto_region 1 with (first | ((with_reducible refine gate_dst (N := 1) rfl ?_); refine box_event ?hg (N := 1) ?hd (cs := #[.int .i64 a0_0, .int .i64 a0_1, .bool a0_2]) (t := 44) ?hr ?_; (case hd => rfl); (case hg => rfl); (case hr => first | (go_simp; done) | (go_simp; rfl)); intro gb46001 hg w3 hbox hb; have n0_ := Aside0.mk (below_step (by repeat (first | exact HB.out | apply below_alloc | apply pw_below_drewN | apply below_drew1)) hb); have n1_ := Aside0.mk (hbox); have n2_ := Aside0.mk ((by rw [hg]; exact (below_size (by repeat (first | exact HB.out | apply below_alloc | apply pw_below_drewN | apply below_drew1))) : w.heap.size ≤ gb46001)); have n3_ := Aside0.mk ((by rw [hg]; exact (below_size (by repeat (first | exact HB.out | apply below_alloc | apply pw_below_drewN | apply below_drew1))) : w.heap.size ≤ gb46001)); clear HB; have HB := n0_; have BK46001 := n1_; have GW46001 := n2_; have GE46001 := n3_; clear n0_ n1_ n2_ n3_; clear hb hbox hg))
 (try simp only [Act.put, List.setIfInBounds_toArray, List.set_cons_zero, List.set_cons_succ])
 go_cut [20] (fun v20 wc => ∃ (kq : Nat) (x20_1 : Bool), v20 = .bool x20_1 ∧ Aside0 (papermillref13_good.j0 kq x20_1 a0_0 a0_1 a0_2 = some r) ∧ Aside0 (kq ≤ k) ∧ Aside0 (wc.heap[gb46001]? = some (.cells #[.int .i64 a0_0, .int .i64 a0_1, .bool a0_2] 44 (0, 0))) ∧ Aside0 (Below w.heap.size w wc))
 case first =>
  have H := HC2.out
  clear HC2
  by_cases c4 : a0_1 < 1
  ·rw [if_pos c4] at H
   have c4b0 : decide (a0_1 < 1) = true := decide_eq_true c4
   clear c4
   (first | rw [c4b0] | (simp only [i64_w, i32_w]; rw [c4b0]) | skip)
   have H' := Aside0.mk H
   clear H
   have hcz5_0 : w3.cell? ⟨gb46001, 0, none⟩ = some (.int .i64 a0_0) := (blk_cell BK46001.out 0).trans rfl
   have hcz5_1 : w3.cell? ⟨gb46001, 1, none⟩ = some (.int .i64 a0_1) := (blk_cell BK46001.out 1).trans rfl
   have hcz5_2 : w3.cell? ⟨gb46001, 2, none⟩ = some (.bool a0_2) := (blk_cell BK46001.out 2).trans rfl
   have hfz5_0 := blk_frozen BK46001.out 0
   have hfz5_1 := blk_frozen BK46001.out 1
   have hfz5_2 := blk_frozen BK46001.out 2
   go_wp2
   go_meet
   case rel => exact ⟨_, (true), (by first | rfl | (simp; done) | (simp [*]; done)), H', ⟨by first | omega | exact Nat.le_refl _⟩, ⟨BK46001.out⟩, ⟨by repeat (first | exact HB.out | apply below_alloc | apply pw_below_drewN | apply below_drew1 | refine below_set ?_ GE46001.out)⟩⟩
  ·rw [if_neg c4] at H
   have c4b0 : decide (a0_1 < 1) = false := decide_eq_false c4
   clear c4
   (first | rw [c4b0] | (simp only [i64_w, i32_w]; rw [c4b0]) | skip)
   by_cases c6 : a0_1 > 17179869184
   ·rw [if_pos c6] at H
    have c6b0 : decide (17179869184 < a0_1) = true := decide_eq_true c6
    clear c6
    have H' := Aside0.mk H
    clear H
    have hcz7_0 : w3.cell? ⟨gb46001, 0, none⟩ = some (.int .i64 a0_0) := (blk_cell BK46001.out 0).trans rfl
    have hcz7_1 : w3.cell? ⟨gb46001, 1, none⟩ = some (.int .i64 a0_1) := (blk_cell BK46001.out 1).trans rfl
    have hcz7_2 : w3.cell? ⟨gb46001, 2, none⟩ = some (.bool a0_2) := (blk_cell BK46001.out 2).trans rfl
    have hfz7_0 := blk_frozen BK46001.out 0
    have hfz7_1 := blk_frozen BK46001.out 1
    have hfz7_2 := blk_frozen BK46001.out 2
    go_wp2
    go_meet
    case rel => exact ⟨_, (true), (by first | rfl | (simp; done) | (simp [*]; done)), H', ⟨by first | omega | exact Nat.le_refl _⟩, ⟨BK46001.out⟩, ⟨by repeat (first | exact HB.out | apply below_alloc | apply pw_below_drewN | apply below_drew1 | refine below_set ?_ GE46001.out)⟩⟩
   ·rw [if_neg c6] at H
    have c6b0 : decide (17179869184 < a0_1) = false := decide_eq_false c6
    clear c6
    by_cases c8 : a0_0 < 0
    ·rw [if_pos c8] at H
     have c8b0 : decide (a0_0 < 0) = true := decide_eq_true c8
     clear c8
     have H' := Aside0.mk H
     clear H
     have hcz9_0 : w3.cell? ⟨gb46001, 0, none⟩ = some (.int .i64 a0_0) := (blk_cell BK46001.out 0).trans rfl
     have hcz9_1 : w3.cell? ⟨gb46001, 1, none⟩ = some (.int .i64 a0_1) := (blk_cell BK46001.out 1).trans rfl
     have hcz9_2 : w3.cell? ⟨gb46001, 2, none⟩ = some (.bool a0_2) := (blk_cell BK46001.out 2).trans rfl
     have hfz9_0 := blk_frozen BK46001.out 0
     have hfz9_1 := blk_frozen BK46001.out 1
     have hfz9_2 := blk_frozen BK46001.out 2
     go_wp2
     go_meet
     case rel => exact ⟨_, (true), (by first | rfl | (simp; done) | (simp [*]; done)), H', ⟨by first | omega | exact Nat.le_refl _⟩, ⟨BK46001.out⟩, ⟨by repeat (first | exact HB.out | apply below_alloc | apply pw_below_drewN | apply below_drew1 | refine below_set ?_ GE46001.out)⟩⟩
    ·rw [if_neg c8] at H
     have c8b0 : decide (a0_0 < 0) = false := decide_eq_false c8
     clear c8
     have H' := Aside0.mk H
     clear H
     have hcz10_0 : w3.cell? ⟨gb46001, 0, none⟩ = some (.int .i64 a0_0) := (blk_cell BK46001.out 0).trans rfl
     have hcz10_1 : w3.cell? ⟨gb46001, 1, none⟩ = some (.int .i64 a0_1) := (blk_cell BK46001.out 1).trans rfl
     have hcz10_2 : w3.cell? ⟨gb46001, 2, none⟩ = some (.bool a0_2) := (blk_cell BK46001.out 2).trans rfl
     have hfz10_0 := blk_frozen BK46001.out 0
     have hfz10_1 := blk_frozen BK46001.out 1
     have hfz10_2 := blk_frozen BK46001.out 2
     go_wp2
     go_meet
     case rel => exact ⟨_, (decide (a0_0 ≥ 17179869184)), (by first | rfl | (simp; done) | (simp [*]; done)), H', ⟨by first | omega | exact Nat.le_refl _⟩, ⟨BK46001.out⟩, ⟨by repeat (first | exact HB.out | apply below_alloc | apply pw_below_drewN | apply below_drew1 | refine below_set ?_ GE46001.out)⟩⟩
 case rest =>
  clear HC2
  try clear p2
  try clear c4
  try clear c4b0
  try clear c6
  try clear c6b0
  try clear c8
  try clear c8b0
  try clear hcz10_0
  try clear hcz10_1
  try clear hcz10_2
  try clear hcz5_0
  try clear hcz5_1
  try clear hcz5_2
  try clear hcz7_0
  try clear hcz7_1
  try clear hcz7_2
  try clear hcz9_0
  try clear hcz9_1
  try clear hcz9_2
  try clear hfz10_0
  try clear hfz10_1
  try clear hfz10_2
  try clear hfz5_0
  try clear hfz5_1
  try clear hfz5_2
  try clear hfz7_0
  try clear hfz7_1
  try clear hfz7_2
  try clear hfz9_0
  try clear hfz9_1
  try clear hfz9_2
  obtain ⟨kq, x20_1, rfl, HA, HJ1, BK46001, HB⟩ := hcut
  cases kq with
  | zero => exact absurd HA.out (by simp [papermillref13_good.j0])
  | succ kj1 =>
   have H := HA.out
   clear HA
   simp only [papermillref13_good.j0] at H
   by_cases c11 : x20_1 = true
   ·subst c11
    have H1 : (some false) = some r := by rw [if_pos rfl] at H; exact H
    clear H
    have H := H1
    clear H1
    obtain rfl := Option.some.inj H
    go_wp2
    go_ret
    exact ⟨by first | rfl | (simp [errW_none, errW_some] <;> rfl) | (simp [*, errW_none, errW_some] <;> rfl), by repeat (first | exact HB.out | apply below_alloc | apply pw_below_drewN | apply below_drew1 | refine below_set ?_ GE46001.out)⟩
   ·replace c11 := Bool.eq_false_iff.mpr c11
    subst c11
    have H1 : (if a0_2 = true then (some (decide ((wrap64 ((wrap64 (a0_0 - a0_1)) + 1)) ≥ 0))) else (some (decide ((wrap64 (a0_0 + a0_1)) ≤ 17179869184)))) = some r := by rw [if_neg (show ¬ (false = true) by decide)] at H; first | exact H | simpa using H
    clear H
    have H := H1
    clear H1
    by_cases c12 : a0_2 = true
    ·subst c12
     have H1 : (some (decide ((wrap64 ((wrap64 (a0_0 - a0_1)) + 1)) ≥ 0))) = some r := by rw [if_pos rfl] at H; exact H
     clear H
     have H := H1
     clear H1
     obtain rfl := Option.some.inj H
     have hcz13_0 : wc.cell? ⟨gb46001, 0, none⟩ = some (.int .i64 a0_0) := (blk_cell BK46001.out 0).trans rfl
     have hcz13_1 : wc.cell? ⟨gb46001, 1, none⟩ = some (.int .i64 a0_1) := (blk_cell BK46001.out 1).trans rfl
     have hcz13_2 : wc.cell? ⟨gb46001, 2, none⟩ = some (.bool true) := (blk_cell BK46001.out 2).trans rfl
     have hfz13_0 := blk_frozen BK46001.out 0
     have hfz13_1 := blk_frozen BK46001.out 1
     have hfz13_2 := blk_frozen BK46001.out 2
     go_wp2
     go_ret
     exact ⟨by first | rfl | (simp [errW_none, errW_some] <;> rfl) | (simp [*, errW_none, errW_some] <;> rfl), by repeat (first | exact HB.out | apply below_alloc | apply pw_below_drewN | apply below_drew1 | refine below_set ?_ GE46001.out)⟩
    ·replace c12 := Bool.eq_false_iff.mpr c12
     subst c12
     have H1 : (some (decide ((wrap64 (a0_0 + a0_1)) ≤ 17179869184))) = some r := by rw [if_neg (show ¬ (false = true) by decide)] at H; first | exact H | simpa using H
     clear H
     have H := H1
     clear H1
     obtain rfl := Option.some.inj H
     have hcz14_0 : wc.cell? ⟨gb46001, 0, none⟩ = some (.int .i64 a0_0) := (blk_cell BK46001.out 0).trans rfl
     have hcz14_1 : wc.cell? ⟨gb46001, 1, none⟩ = some (.int .i64 a0_1) := (blk_cell BK46001.out 1).trans rfl
     have hcz14_2 : wc.cell? ⟨gb46001, 2, none⟩ = some (.bool false) := (blk_cell BK46001.out 2).trans rfl
     have hfz14_0 := blk_frozen BK46001.out 0
     have hfz14_1 := blk_frozen BK46001.out 1
     have hfz14_2 := blk_frozen BK46001.out 2
     go_wp2
     go_ret
     exact ⟨by first | rfl | (simp [errW_none, errW_some] <;> rfl) | (simp [*, errW_none, errW_some] <;> rfl), by repeat (first | exact HB.out | apply below_alloc | apply pw_below_drewN | apply below_drew1 | refine below_set ?_ GE46001.out)⟩

end Go.Proofs.Ytalpegglbfobiaa.G

namespace Go.Proofs.Ytalpegglbfobiaa.G
open Go.RowKit Go.Proofs.YtalpegglbfobiaaW.PrintWords Go.Proofs.YtalpegglbfobiaaW.PrintLast Go.Proofs.YtalpegglbfobiaaW.PrintMore
attribute [local go_sem] max2_int min2_int max_two min_two max_three min_three max_four min_four   -- for this text's walks alone
set_option linter.unusedVariables false
set_option linter.unusedSimpArgs false

def papermillref13_length.l0 : Nat → List (S44) → Int → Int → Option (Int)
 | 0, _, _, _ => none
 | k + 1, x0, x3, x4 => if x4 < (x0.length : Int) then (if 0 ≤ x4 then (papermillref13_length.l0 k x0 (wrap64 (x3 + ((rd_T44 x0 x4).f1))) (wrap64 (x4 + 1))) else (none)) else (some x3)
def papermillref13_length.f (k : Nat) (l0 : List (S44)) : Option (Int) := papermillref13_length.l0 k l0 0 0
theorem papermillref13_length.mono_l : ∀ k, (∀ y0 y1 y2, LeO (papermillref13_length.l0 k y0 y1 y2) (papermillref13_length.l0 (k + 1) y0 y1 y2))
 | 0 => fun _ _ _ r h => by simp [papermillref13_length.l0] at h
 | k + 1 => by
  have ih0 := papermillref13_length.mono_l k
  ·intro y0 y1 y2
   unfold papermillref13_length.l0
   repeat' first
   | (with_reducible exact ih0 _ _ _)
   | (with_reducible exact LeO.refl _)
   | (with_reducible exact LeO.none _)
   | (with_reducible refine LeO.ite ?_ ?_)
   | (with_reducible refine LeO.bind ?_ (fun _ => ?_))
   | exact ih0 _ _ _
   | exact LeO.none _
   | refine LeO.ite ?_ ?_
   | refine LeO.bind ?_ (fun _ => ?_)
theorem papermillref13_length.mono : ∀ a0 k, LeO (papermillref13_length.f k a0) (papermillref13_length.f (k + 1) a0) := by
 intro a0 k
 have ih0 := papermillref13_length.mono_l k
 unfold papermillref13_length.f
 repeat' first
   | (with_reducible exact ih0 _ _ _)
   | (with_reducible exact LeO.refl _)
   | (with_reducible exact LeO.none _)
   | (with_reducible refine LeO.ite ?_ ?_)
   | (with_reducible refine LeO.bind ?_ (fun _ => ?_))
   | exact ih0 _ _ _
   | exact LeO.none _
   | refine LeO.ite ?_ ?_
   | refine LeO.bind ?_ (fun _ => ?_)
set_option maxHeartbeats 8000000 in
set_option maxRecDepth 100000 in
theorem papermillref13_length.calls (k : Nat) (A0 : Option Addr) (c0 : Nat) (l0 : List (S44)) (r : Int) (w : World) (hr0 : Kd.C k44 w A0 l0.length l0) (hc0 : l0.length ≤ c0) (h : papermillref13_length.f k l0 = some r) :
  Calls Try.prog 46 #[.slice A0 l0.length c0] w fun e w' => e = .returned (.int .i64 r) ∧ Drawn0 w w' := by
 have HR0 := Aside0.mk hr0
 have HC0 := Aside0.mk hc0
 clear hr0 hc0
 have H : (papermillref13_length.l0 k l0 0 0) = some r := h
 clear h
 have H' := Aside0.mk H
 clear H
 go_enter Try.func46, Try.ntmps46
 go_wp2
 go_loopg [3, 4] k (fun kq v3 v4 w' => ∃ (x3_1 : Int) (x4_1 : Int), v3 = .int .i64 x3_1 ∧ v4 = .int .i64 x4_1 ∧ Aside0 (papermillref13_length.l0 kq l0 x3_1 x4_1 = some r) ∧ Aside0 (kq ≤ k) ∧ Drawn0 w w')
 case atStart => exact ⟨(0), (0), (by first | rfl | (simp; done) | (simp [*]; done)), (by first | rfl | (simp; done) | (simp [*]; done)), H', ⟨Nat.le_refl _⟩, by repeat (first | exact Drawn0.refl _ | apply Drawn0.step)⟩
 case round =>
  clear H'
  obtain ⟨x3_1, x4_1, rfl, rfl, HA, HK1, ⟨m1, rfl⟩⟩ := hrel
  cases gk with
  | zero => exact absurd HA.out (by simp [papermillref13_length.l0])
  | succ k1 =>
   have H := HA.out
   clear HA
   simp only [papermillref13_length.l0] at H
   by_cases c2 : x4_1 < (l0.length : Int)
   ·rw [if_pos c2] at H
    have c2b0 : decide (x4_1 < (l0.length : Int)) = true := decide_eq_true c2
    clear c2
    by_cases c3 : 0 ≤ x4_1
    ·rw [if_pos c3] at H
     have c3b0 : decide (0 ≤ x4_1) = true := decide_eq_true c3
     clear c3
     have H' := Aside0.mk H
     clear H
     have p47001 : 0 ≤ (x4_1 : Int) := of_decide_eq_true (by assumption)
     have q47001 : x4_1 < (l0.length : Int) := of_decide_eq_true (by assumption)
     obtain ⟨ad47001, e47001, hx47001_0, hx47001_1, hx47001_2⟩ := at_T44 HR0.out x4_1 p47001 q47001
     cases e47001
     replace p47001 := eq_true p47001
     replace q47001 := eq_true q47001
     go_wp2
     go_roundg k1
     case measure => have := HK1.out; omega
     case rel => exact ⟨(wrap64 (x3_1 + ((rd_T44 l0 x4_1).f1))), (wrap64 (x4_1 + 1)), (by first | rfl | (simp; done) | (simp [*]; done)), (by first | rfl | (simp; done) | (simp [*]; done)), H', ⟨by have := HK1.out; omega⟩, by repeat (first | exact Drawn0.refl _ | apply Drawn0.step)⟩
    ·rw [if_neg c3] at H
     exact absurd H (by simp)
   ·rw [if_neg c2] at H
    have c2b0 : decide (x4_1 < (l0.length : Int)) = false := decide_eq_false c2
    clear c2
    obtain rfl := Option.some.inj H
    go_wp2
    go_ret
    exact ⟨by first | rfl | (simp; done) | (simp [*]; done), by repeat (first | exact Drawn0.refl _ | apply Drawn0.step)⟩

end Go.Proofs.Ytalpegglbfobiaa.G

namespace Go.Proofs.Ytalpegglbfobiaa.G
open Go.RowKit Go.Proofs.YtalpegglbfobiaaW.PrintWords Go.Proofs.YtalpegglbfobiaaW.PrintLast Go.Proofs.YtalpegglbfobiaaW.PrintMore
attribute [local go_sem] max2_int min2_int max_two min_two max_three min_three max_four min_four   -- for this text's walks alone
set_option linter.unusedVariables false
set_option linter.unusedSimpArgs false

def papermillref13_Check.l0 : Nat → List (S44) → Int → Option (Int)
 | 0, _, _ => none
 | k + 1, x0, x3 => if x3 < (x0.length : Int) then (if 0 ≤ x3 then ((papermillref13_good.f k ((rd_T44 x0 x3).f0) ((rd_T44 x0 x3).f1) ((rd_T44 x0 x3).f2)).bind fun t26002 => (if t26002 = true then (papermillref13_Check.l0 k x0 (wrap64 (x3 + 1))) else (some 1))) else (none)) else ((papermillref13_length.f k x0).bind fun t26003 => (if t26003 > 17179869184 then (some 21) else (some 0)))
def papermillref13_Check.f (k : Nat) (l0 : List (S44)) : Option (Int) := if (l0.length : Int) > 256 then (some 8) else (papermillref13_Check.l0 k l0 0)
theorem papermillref13_Check.mono_l : ∀ k, (∀ y0 y1, LeO (papermillref13_Check.l0 k y0 y1) (papermillref13_Check.l0 (k + 1) y0 y1))
 | 0 => fun _ _ r h => by simp [papermillref13_Check.l0] at h
 | k + 1 => by
  have ih0 := papermillref13_Check.mono_l k
  ·intro y0 y1
   unfold papermillref13_Check.l0
   repeat' first
   | (with_reducible exact ih0 _ _)
   | (with_reducible exact papermillref13_good.mono _ _ _ _)
   | (with_reducible exact papermillref13_length.mono _ _)
   | (with_reducible exact LeO.refl _)
   | (with_reducible exact LeO.none _)
   | (with_reducible refine LeO.ite ?_ ?_)
   | (with_reducible refine LeO.bind ?_ (fun _ => ?_))
   | exact ih0 _ _
   | exact papermillref13_good.mono _ _ _ _
   | exact papermillref13_length.mono _ _
   | exact LeO.none _
   | refine LeO.ite ?_ ?_
   | refine LeO.bind ?_ (fun _ => ?_)
theorem papermillref13_Check.mono : ∀ a0 k, LeO (papermillref13_Check.f k a0) (papermillref13_Check.f (k + 1) a0) := by
 intro a0 k
 have ih0 := papermillref13_Check.mono_l k
 unfold papermillref13_Check.f
 repeat' first
   | (with_reducible exact ih0 _ _)
   | (with_reducible exact papermillref13_good.mono _ _ _ _)
   | (with_reducible exact papermillref13_length.mono _ _)
   | (with_reducible exact LeO.refl _)
   | (with_reducible exact LeO.none _)
   | (with_reducible refine LeO.ite ?_ ?_)
   | (with_reducible refine LeO.bind ?_ (fun _ => ?_))
   | exact ih0 _ _
   | exact papermillref13_good.mono _ _ _ _
   | exact papermillref13_length.mono _ _
   | exact LeO.none _
   | refine LeO.ite ?_ ?_
   | refine LeO.bind ?_ (fun _ => ?_)
set_option maxHeartbeats 8000000 in
set_option maxRecDepth 100000 in
theorem papermillref13_Check.calls (k : Nat) (A0 : Option Addr) (c0 : Nat) (l0 : List (S44)) (r : Int) (w : World) (hr0 : Kd.C k44 w A0 l0.length l0) (hc0 : l0.length ≤ c0) (h : papermillref13_Check.f k l0 = some r) :
  Calls Try.prog 25 #[.slice A0 l0.length c0] w fun e w' => e = .returned (.int .i64 r) ∧ Below w.heap.size w w' := by
 have hu44 := Try.underlying44
 have HR0 := Aside0.mk hr0
 have HC0 := Aside0.mk hc0
 clear hr0 hc0
 have HB := Aside0.mk (Below.refl w.heap.size w)
 have H : (if (l0.length : Int) > 256 then (some 8) else (papermillref13_Check.l0 k l0 0)) = some r := h
 clear h
 by_cases c2 : (l0.length : Int) > 256
 ·rw [if_pos c2] at H
  have c2b0 : decide (256 < (l0.length : Int)) = true := decide_eq_true c2
  have c2b1 : decide (256 < l0.length) = true := decide_eq_true (by omega)
  clear c2
  obtain rfl := Option.some.inj H
  go_enter Try.func25, Try.ntmps25
  go_wp2
  go_ret
  exact ⟨by first | rfl | (simp [errW_none, errW_some] <;> rfl) | (simp [*, errW_none, errW_some] <;> rfl), by repeat (first | exact HB.out | apply below_alloc | apply pw_below_drewN | apply below_drew1)⟩
 ·rw [if_neg c2] at H
  have c2b0 : decide (256 < (l0.length : Int)) = false := decide_eq_false c2
  have c2b1 : decide (256 < l0.length) = false := decide_eq_false (by omega)
  clear c2
  have H' := Aside0.mk H
  clear H
  go_enter Try.func25, Try.ntmps25
  go_wp2
  go_loopg [3] k (fun kq v3 w' => ∃ (x3_1 : Int), v3 = .int .i64 x3_1 ∧ Aside0 (papermillref13_Check.l0 kq l0 x3_1 = some r) ∧ Aside0 (kq ≤ k) ∧ Aside0 (Below w.heap.size w w'))
  case atStart => exact ⟨(0), (by first | rfl | (simp; done) | (simp [*]; done)), H', ⟨Nat.le_refl _⟩, ⟨by repeat (first | exact HB.out | apply below_alloc | apply pw_below_drewN | apply below_drew1)⟩⟩
  case round =>
   clear H'
   try clear c2
   try clear c2b0
   try clear c2b1
   try clear p2
   obtain ⟨x3_1, rfl, HA, HK1, HB⟩ := hrel
   cases gk with
   | zero => exact absurd HA.out (by simp [papermillref13_Check.l0])
   | succ k1 =>
    have H := HA.out
    clear HA
    simp only [papermillref13_Check.l0] at H
    by_cases c3 : x3_1 < (l0.length : Int)
    ·rw [if_pos c3] at H
     have c3b0 : decide (x3_1 < (l0.length : Int)) = true := decide_eq_true c3
     clear c3
     by_cases c4 : 0 ≤ x3_1
     ·rw [if_pos c4] at H
      have c4b0 : decide (0 ≤ x3_1) = true := decide_eq_true c4
      clear c4
      replace H := Option.bind_eq_some_iff.mp H
      obtain ⟨t26002, A50, H⟩ := H
      replace H : (if t26002 = true then (papermillref13_Check.l0 k1 l0 (wrap64 (x3_1 + 1))) else (some 1)) = some r := H
      have A5 := Aside0.mk A50
      clear A50
      by_cases c6 : t26002 = true
      ·subst c6
       have H1 : (papermillref13_Check.l0 k1 l0 (wrap64 (x3_1 + 1))) = some r := by rw [if_pos rfl] at H; exact H
       clear H
       have H := H1
       clear H1
       have H' := Aside0.mk H
       clear H
       have p26001 : 0 ≤ (x3_1 : Int) := of_decide_eq_true (by assumption)
       have q26001 : x3_1 < (l0.length : Int) := of_decide_eq_true (by assumption)
       obtain ⟨ad26001, e26001, hx26001_0, hx26001_1, hx26001_2⟩ := at_T44 HR0.out x3_1 p26001 q26001
       cases e26001
       replace hx26001_0 := (HB.out.cell (World.block_lt_of_cell? w _ hx26001_0)).trans hx26001_0
       replace hx26001_1 := (HB.out.cell (World.block_lt_of_cell? w _ hx26001_1)).trans hx26001_1
       replace hx26001_2 := (HB.out.cell (World.block_lt_of_cell? w _ hx26001_2)).trans hx26001_2
       replace p26001 := eq_true p26001
       replace q26001 := eq_true q26001
       go_wp2_with (first | ((with_reducible refine gate_callee (f := 45) rfl ?_); refine goesL_ (some 17) rfl rfl Try.func45 (by kernel_rfl) rfl #[.agg #[.int .i64 ((rd_T44 l0 x3_1).f0), .int .i64 ((rd_T44 l0 x3_1).f1), .bool ((rd_T44 l0 x3_1).f2)]] rfl (by (try simp only [List.map_toArray, List.map_cons, List.map_nil]); first | done | rfl | (simp only [List.length_drop, List.length_take]; rfl)) ?_; (with_reducible refine (papermillref13_good.calls k1 ((rd_T44 l0 x3_1).f0) ((rd_T44 l0 x3_1).f1) ((rd_T44 l0 x3_1).f2) true _ A5.out).mono ?_); rintro e w7 ⟨rfl, hb⟩; refine ⟨_, rfl, ?_⟩; have n0_ := Aside0.mk (below_step (by repeat (first | exact HB.out | apply below_alloc | apply pw_below_drewN | apply below_drew1)) hb); clear HB; have HB := n0_; clear n0_; (try clear hb); (try clear hb2); (try clear hk); (try clear hi)))
       go_roundg k1
       case measure => have := HK1.out; omega
       case rel => exact ⟨(wrap64 (x3_1 + 1)), (by first | rfl | (simp; done) | (simp [*]; done)), H', ⟨by have := HK1.out; omega⟩, ⟨by repeat (first | exact HB.out | apply below_alloc | apply pw_below_drewN | apply below_drew1)⟩⟩
      ·replace c6 := Bool.eq_false_iff.mpr c6
       subst c6
       have H1 : (some 1) = some r := by rw [if_neg (show ¬ (false = true) by decide)] at H; first | exact H | simpa using H
       clear H
       have H := H1
       clear H1
       obtain rfl := Option.some.inj H
       have p26001 : 0 ≤ (x3_1 : Int) := of_decide_eq_true (by assumption)
       have q26001 : x3_1 < (l0.length : Int) := of_decide_eq_true (by assumption)
       obtain ⟨ad26001, e26001, hx26001_0, hx26001_1, hx26001_2⟩ := at_T44 HR0.out x3_1 p26001 q26001
       cases e26001
       replace hx26001_0 := (HB.out.cell (World.block_lt_of_cell? w _ hx26001_0)).trans hx26001_0
       replace hx26001_1 := (HB.out.cell (World.block_lt_of_cell? w _ hx26001_1)).trans hx26001_1
       replace hx26001_2 := (HB.out.cell (World.block_lt_of_cell? w _ hx26001_2)).trans hx26001_2
       replace p26001 := eq_true p26001
       replace q26001 := eq_true q26001
       go_wp2_with (first | ((with_reducible refine gate_callee (f := 45) rfl ?_); refine goesL_ (some 17) rfl rfl Try.func45 (by kernel_rfl) rfl #[.agg #[.int .i64 ((rd_T44 l0 x3_1).f0), .int .i64 ((rd_T44 l0 x3_1).f1), .bool ((rd_T44 l0 x3_1).f2)]] rfl (by (try simp only [List.map_toArray, List.map_cons, List.map_nil]); first | done | rfl | (simp only [List.length_drop, List.length_take]; rfl)) ?_; (with_reducible refine (papermillref13_good.calls k1 ((rd_T44 l0 x3_1).f0) ((rd_T44 l0 x3_1).f1) ((rd_T44 l0 x3_1).f2) false _ A5.out).mono ?_); rintro e w8 ⟨rfl, hb⟩; refine ⟨_, rfl, ?_⟩; have n0_ := Aside0.mk (below_step (by repeat (first | exact HB.out | apply below_alloc | apply pw_below_drewN | apply below_drew1)) hb); clear HB; have HB := n0_; clear n0_; (try clear hb); (try clear hb2); (try clear hk); (try clear hi)))
       go_ret
       exact ⟨by first | rfl | (simp [errW_none, errW_some] <;> rfl) | (simp [*, errW_none, errW_some] <;> rfl), by repeat (first | exact HB.out | apply below_alloc | apply pw_below_drewN | apply below_drew1)⟩
     ·rw [if_neg c4] at H
      exact absurd H (by simp)
    ·rw [if_neg c3] at H
     have c3b0 : decide (x3_1 < (l0.length : Int)) = false := decide_eq_false c3
     clear c3
     replace H := Option.bind_eq_some_iff.mp H
     obtain ⟨t26003, A90, H⟩ := H
     replace H : (if t26003 > 17179869184 then (some 21) else (some 0)) = some r := H
     have A9 := Aside0.mk A90
     clear A90
     by_cases c10 : t26003 > 17179869184
     ·rw [if_pos c10] at H
      have c10b0 : decide (17179869184 < t26003) = true := decide_eq_true c10
      clear c10
      obtain rfl := Option.some.inj H
      go_wp2_with (first | ((with_reducible refine gate_callee (f := 46) rfl ?_); refine goesL_ (some 20) rfl rfl Try.func46 (by kernel_rfl) rfl #[.slice A0 l0.length c0] rfl (by (try simp only [List.map_toArray, List.map_cons, List.map_nil]); first | done | rfl | (simp only [List.length_drop, List.length_take]; rfl)) ?_; (with_reducible refine (papermillref13_length.calls k1 _ _ l0 t26003 _ ?side1 ?side2 A9.out).mono ?_); (case side1 => exact (Kd.C_below HR0.out HB.out)); (case side2 => exact HC0.out); rintro e w' ⟨rfl, ⟨nd, rfl⟩⟩; refine ⟨_, rfl, ?_⟩))
      go_ret
      exact ⟨by first | rfl | (simp [errW_none, errW_some] <;> rfl) | (simp [*, errW_none, errW_some] <;> rfl), by repeat (first | exact HB.out | apply below_alloc | apply pw_below_drewN | apply below_drew1)⟩
     ·rw [if_neg c10] at H
      have c10b0 : decide (17179869184 < t26003) = false := decide_eq_false c10
      clear c10
      obtain rfl := Option.some.inj H
      go_wp2_with (first | ((with_reducible refine gate_callee (f := 46) rfl ?_); refine goesL_ (some 20) rfl rfl Try.func46 (by kernel_rfl) rfl #[.slice A0 l0.length c0] rfl (by (try simp only [List.map_toArray, List.map_cons, List.map_nil]); first | done | rfl | (simp only [List.length_drop, List.length_take]; rfl)) ?_; (with_reducible refine (papermillref13_length.calls k1 _ _ l0 t26003 _ ?side1 ?side2 A9.out).mono ?_); (case side1 => exact (Kd.C_below HR0.out HB.out)); (case side2 => exact HC0.out); rintro e w' ⟨rfl, ⟨nd, rfl⟩⟩; refine ⟨_, rfl, ?_⟩))
      go_ret
      exact ⟨by first | rfl | (simp [errW_none, errW_some] <;> rfl) | (simp [*, errW_none, errW_some] <;> rfl), by repeat (first | exact HB.out | apply below_alloc | apply pw_below_drewN | apply below_drew1)⟩

end Go.Proofs.Ytalpegglbfobiaa.G

namespace Go.Proofs.Ytalpegglbfobiaa.G
open Go.RowKit Go.Proofs.YtalpegglbfobiaaW.PrintWords Go.Proofs.YtalpegglbfobiaaW.PrintLast Go.Proofs.YtalpegglbfobiaaW.PrintMore
attribute [local go_sem] max2_int min2_int max_two min_two max_three min_three max_four min_four   -- for this text's walks alone
set_option linter.unusedVariables false
set_option linter.unusedSimpArgs false

def papermillref13_image.f (a0_0 : Int) (a0_1 : Int) (a0_2 : Bool) (a1 : Int) : Option (Int) := if a0_2 = true then (some (wrap64 (a0_0 - a1))) else (some (wrap64 (a0_0 + a1)))
set_option maxHeartbeats 8000000 in
set_option maxRecDepth 100000 in
theorem papermillref13_image.calls (a0_0 : Int) (a0_1 : Int) (a0_2 : Bool) (a1 : Int) (r : Int) (w : World) (h : papermillref13_image.f a0_0 a0_1 a0_2 a1 = some r) :
  Calls Try.prog 48 #[.agg #[.int .i64 a0_0, .int .i64 a0_1, .bool a0_2], .int .i64 a1] w fun e w' => e = .returned (.int .i64 r) ∧ Below w.heap.size w w' := by
 have hu44 := Try.underlying44
 have HB := Aside0.mk (Below.refl w.heap.size w)
 have H : (if a0_2 = true then (some (wrap64 (a0_0 - a1))) else (some (wrap64 (a0_0 + a1)))) = some r := h
 clear h
 by_cases c3 : a0_2 = true
 ·subst c3
  have H1 : (some (wrap64 (a0_0 - a1))) = some r := by rw [if_pos rfl] at H; exact H
  clear H
  have H := H1
  clear H1
  obtain rfl := Option.some.inj H
  go_enter Try.func48, Try.ntmps48
  go_wp2_with (first | ((with_reducible refine gate_dst (N := 2) rfl ?_); refine box_event ?hg (N := 2) ?hd (cs := #[.int .i64 a0_0, .int .i64 a0_1, .bool true]) (t := 44) ?hr ?_; (case hd => rfl); (case hg => rfl); (case hr => first | (go_simp; done) | (go_simp; rfl)); intro gb49001 hg w4 hbox hb; have n0_ := Aside0.mk (below_step (by repeat (first | exact HB.out | apply below_alloc | apply pw_below_drewN | apply below_drew1)) hb); have n1_ := Aside0.mk (hbox); have n2_ := Aside0.mk ((by rw [hg]; exact (below_size (by repeat (first | exact HB.out | apply below_alloc | apply pw_below_drewN | apply below_drew1))) : w.heap.size ≤ gb49001)); have n3_ := Aside0.mk ((by rw [hg]; exact (below_size (by repeat (first | exact HB.out | apply below_alloc | apply pw_below_drewN | apply below_drew1))) : w.heap.size ≤ gb49001)); clear HB; have HB := n0_; have BK49001 := n1_; have GW49001 := n2_; have GE49001 := n3_; clear n0_ n1_ n2_ n3_; clear hb hbox hg; have hcz5_0 : w4.cell? ⟨gb49001, 0, none⟩ = some (.int .i64 a0_0) := (blk_cell BK49001.out 0).trans rfl; have hcz5_1 : w4.cell? ⟨gb49001, 1, none⟩ = some (.int .i64 a0_1) := (blk_cell BK49001.out 1).trans rfl; have hcz5_2 : w4.cell? ⟨gb49001, 2, none⟩ = some (.bool true) := (blk_cell BK49001.out 2).trans rfl; have hfz5_0 := blk_frozen BK49001.out 0; have hfz5_1 := blk_frozen BK49001.out 1; have hfz5_2 := blk_frozen BK49001.out 2))
  go_ret
  exact ⟨by first | rfl | (simp [errW_none, errW_some] <;> rfl) | (simp [*, errW_none, errW_some] <;> rfl), by repeat (first | exact HB.out | apply below_alloc | apply pw_below_drewN | apply below_drew1 | refine below_set ?_ GE49001.out)⟩
 ·replace c3 := Bool.eq_false_iff.mpr c3
  subst c3
  have H1 : (some (wrap64 (a0_0 + a1))) = some r := by rw [if_neg (show ¬ (false = true) by decide)] at H; first | exact H | simpa using H
  clear H
  have H := H1
  clear H1
  obtain rfl := Option.some.inj H
  go_enter Try.func48, Try.ntmps48
  go_wp2_with (first | ((with_reducible refine gate_dst (N := 2) rfl ?_); refine box_event ?hg (N := 2) ?hd (cs := #[.int .i64 a0_0, .int .i64 a0_1, .bool false]) (t := 44) ?hr ?_; (case hd => rfl); (case hg => rfl); (case hr => first | (go_simp; done) | (go_simp; rfl)); intro gb49001 hg w6 hbox hb; have n0_ := Aside0.mk (below_step (by repeat (first | exact HB.out | apply below_alloc | apply pw_below_drewN | apply below_drew1)) hb); have n1_ := Aside0.mk (hbox); have n2_ := Aside0.mk ((by rw [hg]; exact (below_size (by repeat (first | exact HB.out | apply below_alloc | apply pw_below_drewN | apply below_drew1))) : w.heap.size ≤ gb49001)); have n3_ := Aside0.mk ((by rw [hg]; exact (below_size (by repeat (first | exact HB.out | apply below_alloc | apply pw_below_drewN | apply below_drew1))) : w.heap.size ≤ gb49001)); clear HB; have HB := n0_; have BK49001 := n1_; have GW49001 := n2_; have GE49001 := n3_; clear n0_ n1_ n2_ n3_; clear hb hbox hg; have hcz7_0 : w6.cell? ⟨gb49001, 0, none⟩ = some (.int .i64 a0_0) := (blk_cell BK49001.out 0).trans rfl; have hcz7_1 : w6.cell? ⟨gb49001, 1, none⟩ = some (.int .i64 a0_1) := (blk_cell BK49001.out 1).trans rfl; have hcz7_2 : w6.cell? ⟨gb49001, 2, none⟩ = some (.bool false) := (blk_cell BK49001.out 2).trans rfl; have hfz7_0 := blk_frozen BK49001.out 0; have hfz7_1 := blk_frozen BK49001.out 1; have hfz7_2 := blk_frozen BK49001.out 2))
  go_ret
  exact ⟨by first | rfl | (simp [errW_none, errW_some] <;> rfl) | (simp [*, errW_none, errW_some] <;> rfl), by repeat (first | exact HB.out | apply below_alloc | apply pw_below_drewN | apply below_drew1 | refine below_set ?_ GE49001.out)⟩

end Go.Proofs.Ytalpegglbfobiaa.G

namespace Go.Proofs.Ytalpegglbfobiaa.G
open Go.RowKit Go.Proofs.YtalpegglbfobiaaW.PrintWords Go.Proofs.YtalpegglbfobiaaW.PrintLast Go.Proofs.YtalpegglbfobiaaW.PrintMore
attribute [local go_sem] max2_int min2_int max_two min_two max_three min_three max_four min_four   -- for this text's walks alone
set_option linter.unusedVariables false
set_option linter.unusedSimpArgs false

mutual
def papermillref13_place.l0 : Nat → List (S44) → Int → Int → Option (Int × Int)
 | 0, _, _, _ => none
 | k + 1, x0, x1, x6 => if x6 < (x0.length : Int) then (papermillref13_place.j1 k x0 x1 x6 (decide (x1 ≥ 0))) else (papermillref13_place.j1 k x0 x1 x6 false)
def papermillref13_place.j1 : Nat → List (S44) → Int → Int → Bool → Option (Int × Int)
 | 0, _, _, _, _ => none
 | k + 1, x0, x1, x6, x14 => if x14 = true then (if 0 ≤ x6 then (if x6 < (x0.length : Int) then (if x1 < ((rd_T44 x0 x6).f1) then (some (x6, x1)) else (papermillref13_place.l0 k x0 (wrap64 (x1 - ((rd_T44 x0 x6).f1))) (wrap64 (x6 + 1)))) else (none)) else (none)) else (some ((-1), 0))
end
def papermillref13_place.f (k : Nat) (l0 : List (S44)) (a1 : Int) : Option (Int × Int) := papermillref13_place.l0 k l0 a1 0
theorem papermillref13_place.mono_l : ∀ k, (∀ y0 y1 y2, LeO (papermillref13_place.l0 k y0 y1 y2) (papermillref13_place.l0 (k + 1) y0 y1 y2)) ∧ (∀ y0 y1 y2 y3, LeO (papermillref13_place.j1 k y0 y1 y2 y3) (papermillref13_place.j1 (k + 1) y0 y1 y2 y3))
 | 0 => ⟨fun _ _ _ r h => by simp [papermillref13_place.l0] at h, fun _ _ _ _ r h => by simp [papermillref13_place.j1] at h⟩
 | k + 1 => by
  obtain ⟨ih0, ih1⟩ := papermillref13_place.mono_l k
  refine ⟨?_, ?_⟩
  ·intro y0 y1 y2
   unfold papermillref13_place.l0
   repeat' first
   | (with_reducible exact ih0 _ _ _)
   | (with_reducible exact ih1 _ _ _ _)
   | (with_reducible exact LeO.refl _)
   | (with_reducible exact LeO.none _)
   | (with_reducible refine LeO.ite ?_ ?_)
   | (with_reducible refine LeO.bind ?_ (fun _ => ?_))
   | exact ih0 _ _ _
   | exact ih1 _ _ _ _
   | exact LeO.none _
   | refine LeO.ite ?_ ?_
   | refine LeO.bind ?_ (fun _ => ?_)
  ·intro y0 y1 y2 y3
   unfold papermillref13_place.j1
   repeat' first
   | (with_reducible exact ih0 _ _ _)
   | (with_reducible exact ih1 _ _ _ _)
   | (with_reducible exact LeO.refl _)
   | (with_reducible exact LeO.none _)
   | (with_reducible refine LeO.ite ?_ ?_)
   | (with_reducible refine LeO.bind ?_ (fun _ => ?_))
   | exact ih0 _ _ _
   | exact ih1 _ _ _ _
   | exact LeO.none _
   | refine LeO.ite ?_ ?_
   | refine LeO.bind ?_ (fun _ => ?_)
theorem papermillref13_place.mono : ∀ a0 a1 k, LeO (papermillref13_place.f k a0 a1) (papermillref13_place.f (k + 1) a0 a1) := by
 intro a0 a1 k
 obtain ⟨ih0, ih1⟩ := papermillref13_place.mono_l k
 unfold papermillref13_place.f
 repeat' first
   | (with_reducible exact ih0 _ _ _)
   | (with_reducible exact ih1 _ _ _ _)
   | (with_reducible exact LeO.refl _)
   | (with_reducible exact LeO.none _)
   | (with_reducible refine LeO.ite ?_ ?_)
   | (with_reducible refine LeO.bind ?_ (fun _ => ?_))
   | exact ih0 _ _ _
   | exact ih1 _ _ _ _
   | exact LeO.none _
   | refine LeO.ite ?_ ?_
   | refine LeO.bind ?_ (fun _ => ?_)
set_option maxHeartbeats 8000000 in
set_option maxRecDepth 100000 in
theorem papermillref13_place.calls (k : Nat) (A0 : Option Addr) (c0 : Nat) (l0 : List (S44)) (a1 : Int) (r1 : Int) (r2 : Int) (w : World) (hr0 : Kd.C k44 w A0 l0.length l0) (hc0 : l0.length ≤ c0) (h : papermillref13_place.f k l0 a1 = some (r1, r2)) :
  Calls Try.prog 47 #[.slice A0 l0.length c0, .int .i64 a1] w fun e w' => e = .returned (.tuple #[.int .i64 r1, .int .i64 r2]) ∧ Drawn0 w w' := by
 have HR0 := Aside0.mk hr0
 have HC0 := Aside0.mk hc0
 clear hr0 hc0
 have H : (papermillref13_place.l0 k l0 a1 0) = some (r1, r2) := h
 clear h
 have H' := Aside0.mk H
 clear H
 go_enter Try.func47, Try.ntmps47
 go_wp2
 go_loopg [1, 6] k (fun kq v1 v6 w' => ∃ (x1_1 : Int) (x6_1 : Int), v1 = .int .i64 x1_1 ∧ v6 = .int .i64 x6_1 ∧ Aside0 (papermillref13_place.l0 kq l0 x1_1 x6_1 = some (r1, r2)) ∧ Aside0 (kq ≤ k) ∧ Drawn0 w w')
 case atStart => exact ⟨(a1), (0), (by first | rfl | (simp; done) | (simp [*]; done)), (by first | rfl | (simp; done) | (simp [*]; done)), H', ⟨Nat.le_refl _⟩, by repeat (first | exact Drawn0.refl _ | apply Drawn0.step)⟩
 case round =>
  clear H'
  try clear p2
  obtain ⟨x1_1, x6_1, rfl, rfl, HA, HK1, ⟨m1, rfl⟩⟩ := hrel
  cases gk with
  | zero => exact absurd HA.out (by simp [papermillref13_place.l0])
  | succ k1 =>
   have H := HA.out
   clear HA
   simp only [papermillref13_place.l0] at H
   have HC3 := Aside0.mk H
   clear H
   go_upto_region 2 with (fail)
   go_cut [14] (fun v14 wc => ∃ (kq : Nat) (x14_2 : Bool), v14 = .bool x14_2 ∧ Aside0 (papermillref13_place.j1 kq l0 x1_1 x6_1 x14_2 = some (r1, r2)) ∧ Aside0 (kq ≤ k1) ∧ Drawn0 w wc)
   case first =>
    have H := HC3.out
    clear HC3
    by_cases c4 : x6_1 < (l0.length : Int)
    ·rw [if_pos c4] at H
     have c4b0 : decide (x6_1 < (l0.length : Int)) = true := decide_eq_true c4
     clear c4
     (first | rw [c4b0] | (simp only [i64_w, i32_w]; rw [c4b0]) | skip)
     have H' := Aside0.mk H
     clear H
     go_wp2
     go_meet
     case rel => exact ⟨_, (decide (x1_1 ≥ 0)), (by first | rfl | (simp; done) | (simp [*]; done)), H', ⟨by have := HK1.out; first | omega | exact Nat.le_refl _⟩, by repeat (first | exact Drawn0.refl _ | apply Drawn0.step)⟩
    ·rw [if_neg c4] at H
     have c4b0 : decide (x6_1 < (l0.length : Int)) = false := decide_eq_false c4
     clear c4
     (first | rw [c4b0] | (simp only [i64_w, i32_w]; rw [c4b0]) | skip)
     have H' := Aside0.mk H
     clear H
     go_wp2
     go_meet
     case rel => exact ⟨_, (false), (by first | rfl | (simp; done) | (simp [*]; done)), H', ⟨by have := HK1.out; first | omega | exact Nat.le_refl _⟩, by repeat (first | exact Drawn0.refl _ | apply Drawn0.step)⟩
   case rest =>
    clear HC3
    try clear p2
    try clear c4
    try clear c4b0
    try clear p2
    obtain ⟨kq, x14_2, rfl, HA, HJ2, ⟨mc2, rfl⟩⟩ := hcut
    cases kq with
    | zero => exact absurd HA.out (by simp [papermillref13_place.j1])
    | succ kj2 =>
     have H := HA.out
     clear HA
     simp only [papermillref13_place.j1] at H
     by_cases c5 : x14_2 = true
     ·subst c5
      have H1 : (if 0 ≤ x6_1 then (if x6_1 < (l0.length : Int) then (if x1_1 < ((rd_T44 l0 x6_1).f1) then (some (x6_1, x1_1)) else (papermillref13_place.l0 kj2 l0 (wrap64 (x1_1 - ((rd_T44 l0 x6_1).f1))) (wrap64 (x6_1 + 1)))) else (none)) else (none)) = some (r1, r2) := by rw [if_pos rfl] at H; exact H
      clear H
      have H := H1
      clear H1
      by_cases c6 : 0 ≤ x6_1
      ·rw [if_pos c6] at H
       have c6b0 : decide (0 ≤ x6_1) = true := decide_eq_true c6
       clear c6
       by_cases c7 : x6_1 < (l0.length : Int)
       ·rw [if_pos c7] at H
        have c7b0 : decide (x6_1 < (l0.length : Int)) = true := decide_eq_true c7
        clear c7
        by_cases c8 : x1_1 < ((rd_T44 l0 x6_1).f1)
        ·rw [if_pos c8] at H
         have c8b0 : decide (x1_1 < ((rd_T44 l0 x6_1).f1)) = true := decide_eq_true c8
         clear c8
         simp only [Option.some.injEq, Prod.mk.injEq] at H
         obtain ⟨rfl, rfl⟩ := H
         have p48001 : 0 ≤ (x6_1 : Int) := of_decide_eq_true (by assumption)
         have q48001 : x6_1 < (l0.length : Int) := of_decide_eq_true (by assumption)
         obtain ⟨ad48001, e48001, hx48001_0, hx48001_1, hx48001_2⟩ := at_T44 HR0.out x6_1 p48001 q48001
         cases e48001
         replace p48001 := eq_true p48001
         replace q48001 := eq_true q48001
         go_wp2
         go_ret2
         exact ⟨by first | rfl | (simp; done) | (simp [*]; done), by repeat (first | exact Drawn0.refl _ | apply Drawn0.step)⟩
        ·rw [if_neg c8] at H
         have c8b0 : decide (x1_1 < ((rd_T44 l0 x6_1).f1)) = false := decide_eq_false c8
         clear c8
         have H' := Aside0.mk H
         clear H
         have p48001 : 0 ≤ (x6_1 : Int) := of_decide_eq_true (by assumption)
         have q48001 : x6_1 < (l0.length : Int) := of_decide_eq_true (by assumption)
         obtain ⟨ad48001, e48001, hx48001_0, hx48001_1, hx48001_2⟩ := at_T44 HR0.out x6_1 p48001 q48001
         cases e48001
         replace p48001 := eq_true p48001
         replace q48001 := eq_true q48001
         have p48002 : 0 ≤ (x6_1 : Int) := of_decide_eq_true (by assumption)
         have q48002 : x6_1 < (l0.length : Int) := of_decide_eq_true (by assumption)
         obtain ⟨ad48002, e48002, hx48002_0, hx48002_1, hx48002_2⟩ := at_T44 HR0.out x6_1 p48002 q48002
         obtain rfl : ad48001 = ad48002 := (by injection e48002)
         replace p48002 := eq_true p48002
         replace q48002 := eq_true q48002
         go_wp2
         go_roundg kj2
         case measure => have := HK1.out; have := HJ2.out; omega
         case rel => exact ⟨(wrap64 (x1_1 - ((rd_T44 l0 x6_1).f1))), (wrap64 (x6_1 + 1)), (by first | rfl | (simp; done) | (simp [*]; done)), (by first | rfl | (simp; done) | (simp [*]; done)), H', ⟨by have := HK1.out; have := HJ2.out; omega⟩, by repeat (first | exact Drawn0.refl _ | apply Drawn0.step)⟩
       ·rw [if_neg c7] at H
        exact absurd H (by simp)
      ·rw [if_neg c6] at H
       exact absurd H (by simp)
     ·replace c5 := Bool.eq_false_iff.mpr c5
      subst c5
      have H1 : (some ((-1), 0)) = some (r1, r2) := by rw [if_neg (show ¬ (false = true) by decide)] at H; first | exact H | simpa using H
      clear H
      have H := H1
      clear H1
      simp only [Option.some.injEq, Prod.mk.injEq] at H
      obtain ⟨rfl, rfl⟩ := H
      go_wp2
      go_ret2
      exact ⟨by first | rfl | (simp; done) | (simp [*]; done), by repeat (first | exact Drawn0.refl _ | apply Drawn0.step)⟩

end Go.Proofs.Ytalpegglbfobiaa.G

namespace Go.Proofs.Ytalpegglbfobiaa.G
open Go.RowKit Go.Proofs.YtalpegglbfobiaaW.PrintWords Go.Proofs.YtalpegglbfobiaaW.PrintLast Go.Proofs.YtalpegglbfobiaaW.PrintMore
attribute [local go_sem] max2_int min2_int max_two min_two max_three min_three max_four min_four   -- for this text's walks alone
set_option linter.unusedVariables false
set_option linter.unusedSimpArgs false

def papermillref13_At.f (k : Nat) (l0 : List (S44)) (a1 : Int) : Option (Int × Int) := (papermillref13_Check.f k l0).bind fun t27001 => (if t27001 = 0 then ((papermillref13_place.f k l0 a1).bind fun bt27002 => (if bt27002.1 < 0 then (some (0, 1)) else (if 0 ≤ bt27002.1 then (if bt27002.1 < (l0.length : Int) then ((papermillref13_image.f ((rd_T44 l0 bt27002.1).f0) ((rd_T44 l0 bt27002.1).f1) ((rd_T44 l0 bt27002.1).f2) bt27002.2).bind fun t27005 => (some (t27005, 0))) else (none)) else (none)))) else (some (0, t27001)))
theorem papermillref13_At.mono : ∀ a0 a1 k, LeO (papermillref13_At.f k a0 a1) (papermillref13_At.f (k + 1) a0 a1) := by
 intro a0 a1 k
 unfold papermillref13_At.f
 repeat' first
   | (with_reducible exact papermillref13_Check.mono _ _)
   | (with_reducible exact papermillref13_place.mono _ _ _)
   | (with_reducible exact LeO.refl _)
   | (with_reducible exact LeO.none _)
   | (with_reducible refine LeO.ite ?_ ?_)
   | (with_reducible refine LeO.bind ?_ (fun _ => ?_))
   | exact papermillref13_Check.mono _ _
   | exact papermillref13_place.mono _ _ _
   | exact LeO.none _
   | refine LeO.ite ?_ ?_
   | refine LeO.bind ?_ (fun _ => ?_)
set_option maxHeartbeats 8000000 in
set_option maxRecDepth 100000 in
theorem papermillref13_At.calls (k : Nat) (A0 : Option Addr) (c0 : Nat) (l0 : List (S44)) (a1 : Int) (r1 : Int) (r2 : Int) (w : World) (hr0 : Kd.C k44 w A0 l0.length l0) (hc0 : l0.length ≤ c0) (h : papermillref13_At.f k l0 a1 = some (r1, r2)) :
  Calls Try.prog 26 #[.slice A0 l0.length c0, .int .i64 a1] w fun e w' => e = .returned (.tuple #[.int .i64 r1, .int .i64 r2]) ∧ Below w.heap.size w w' := by
 have hu44 := Try.underlying44
 have HR0 := Aside0.mk hr0
 have HC0 := Aside0.mk hc0
 clear hr0 hc0
 have HB := Aside0.mk (Below.refl w.heap.size w)
 have H : ((papermillref13_Check.f k l0).bind fun t27001 => (if t27001 = 0 then ((papermillref13_place.f k l0 a1).bind fun bt27002 => (if bt27002.1 < 0 then (some (0, 1)) else (if 0 ≤ bt27002.1 then (if bt27002.1 < (l0.length : Int) then ((papermillref13_image.f ((rd_T44 l0 bt27002.1).f0) ((rd_T44 l0 bt27002.1).f1) ((rd_T44 l0 bt27002.1).f2) bt27002.2).bind fun t27005 => (some (t27005, 0))) else (none)) else (none)))) else (some (0, t27001)))) = some (r1, r2) := h
 clear h
 replace H := Option.bind_eq_some_iff.mp H
 obtain ⟨t27001, A30, H⟩ := H
 replace H : (if t27001 = 0 then ((papermillref13_place.f k l0 a1).bind fun bt27002 => (if bt27002.1 < 0 then (some (0, 1)) else (if 0 ≤ bt27002.1 then (if bt27002.1 < (l0.length : Int) then ((papermillref13_image.f ((rd_T44 l0 bt27002.1).f0) ((rd_T44 l0 bt27002.1).f1) ((rd_T44 l0 bt27002.1).f2) bt27002.2).bind fun t27005 => (some (t27005, 0))) else (none)) else (none)))) else (some (0, t27001))) = some (r1, r2) := H
 have A3 := Aside0.mk A30
 clear A30
 by_cases c4 : t27001 = 0
 ·rw [if_pos c4] at H
  have c4b0 : (t27001 == 0) = true := beq_iff_eq.mpr c4
  have c4b1 : (t27001 != 0) = false := bne_eq_false_iff_eq.mpr c4
  clear c4
  replace H := Option.bind_eq_some_iff.mp H
  obtain ⟨⟨t27002, t27003⟩, A50, H⟩ := H
  replace H : (if t27002 < 0 then (some (0, 1)) else (if 0 ≤ t27002 then (if t27002 < (l0.length : Int) then ((papermillref13_image.f ((rd_T44 l0 t27002).f0) ((rd_T44 l0 t27002).f1) ((rd_T44 l0 t27002).f2) t27003).bind fun t27005 => (some (t27005, 0))) else (none)) else (none))) = some (r1, r2) := H
  have A5 := Aside0.mk A50
  clear A50
  by_cases c6 : t27002 < 0
  ·rw [if_pos c6] at H
   have c6b0 : decide (t27002 < 0) = true := decide_eq_true c6
   clear c6
   simp only [Option.some.injEq, Prod.mk.injEq] at H
   obtain ⟨rfl, rfl⟩ := H
   go_enter Try.func26, Try.ntmps26
   go_wp2_with (first | ((with_reducible refine gate_callee (f := 25) rfl ?_); refine goesL_ (some 10) rfl rfl Try.func25 (by kernel_rfl) rfl #[.slice A0 l0.length c0] rfl (by (try simp only [List.map_toArray, List.map_cons, List.map_nil]); first | done | rfl | (simp only [List.length_drop, List.length_take]; rfl)) ?_; (with_reducible refine (papermillref13_Check.calls k _ _ l0 t27001 _ ?side1 ?side2 A3.out).mono ?_); (case side1 => exact HR0.out); (case side2 => exact HC0.out); rintro e w7 ⟨rfl, hb⟩; refine ⟨_, rfl, ?_⟩; have n0_ := Aside0.mk (below_step (by repeat (first | exact HB.out | apply below_alloc | apply pw_below_drewN | apply below_drew1)) hb); clear HB; have HB := n0_; clear n0_; (try clear hb); (try clear hb2); (try clear hk); (try clear hi)) | ((with_reducible refine gate_callee (f := 47) rfl ?_); refine goesL_ (some 17) rfl rfl Try.func47 (by kernel_rfl) rfl #[.slice A0 l0.length c0, .int .i64 a1] rfl (by (try simp only [List.map_toArray, List.map_cons, List.map_nil]); first | done | rfl | (simp only [List.length_drop, List.length_take]; rfl)) ?_; (with_reducible refine (papermillref13_place.calls k _ _ l0 a1 t27002 t27003 _ ?side1 ?side2 A5.out).mono ?_); (case side1 => exact (Kd.C_below HR0.out HB.out)); (case side2 => exact HC0.out); rintro e w' ⟨rfl, ⟨nd, rfl⟩⟩; refine ⟨_, rfl, ?_⟩))
   go_ret2
   exact ⟨by first | rfl | (simp [errW_none, errW_some] <;> rfl) | (simp [*, errW_none, errW_some] <;> rfl), by repeat (first | exact HB.out | apply below_alloc | apply pw_below_drewN | apply below_drew1)⟩
  ·rw [if_neg c6] at H
   have c6b0 : decide (t27002 < 0) = false := decide_eq_false c6
   clear c6
   by_cases c8 : 0 ≤ t27002
   ·rw [if_pos c8] at H
    have c8b0 : decide (0 ≤ t27002) = true := decide_eq_true c8
    clear c8
    by_cases c9 : t27002 < (l0.length : Int)
    ·rw [if_pos c9] at H
     have c9b0 : decide (t27002 < (l0.length : Int)) = true := decide_eq_true c9
     clear c9
     replace H := Option.bind_eq_some_iff.mp H
     obtain ⟨t27005, A100, H⟩ := H
     replace H : (some (t27005, 0)) = some (r1, r2) := H
     have A10 := Aside0.mk A100
     clear A100
     simp only [Option.some.injEq, Prod.mk.injEq] at H
     obtain ⟨rfl, rfl⟩ := H
     go_enter Try.func26, Try.ntmps26
     go_wp2_with (first | ((with_reducible refine gate_callee (f := 25) rfl ?_); refine goesL_ (some 10) rfl rfl Try.func25 (by kernel_rfl) rfl #[.slice A0 l0.length c0] rfl (by (try simp only [List.map_toArray, List.map_cons, List.map_nil]); first | done | rfl | (simp only [List.length_drop, List.length_take]; rfl)) ?_; (with_reducible refine (papermillref13_Check.calls k _ _ l0 t27001 _ ?side1 ?side2 A3.out).mono ?_); (case side1 => exact HR0.out); (case side2 => exact HC0.out); rintro e w11 ⟨rfl, hb⟩; refine ⟨_, rfl, ?_⟩; have n0_ := Aside0.mk (below_step (by repeat (first | exact HB.out | apply below_alloc | apply pw_below_drewN | apply below_drew1)) hb); clear HB; have HB := n0_; clear n0_; (try clear hb); (try clear hb2); (try clear hk); (try clear hi)) | ((with_reducible refine gate_callee (f := 47) rfl ?_); refine goesL_ (some 17) rfl rfl Try.func47 (by kernel_rfl) rfl #[.slice A0 l0.length c0, .int .i64 a1] rfl (by (try simp only [List.map_toArray, List.map_cons, List.map_nil]); first | done | rfl | (simp only [List.length_drop, List.length_take]; rfl)) ?_; (with_reducible refine (papermillref13_place.calls k _ _ l0 a1 t27002 t27003 _ ?side1 ?side2 A5.out).mono ?_); (case side1 => exact (Kd.C_below HR0.out HB.out)); (case side2 => exact HC0.out); rintro e w' ⟨rfl, ⟨nd, rfl⟩⟩; refine ⟨_, rfl, ?_⟩; have p27004 : 0 ≤ (t27002 : Int) := of_decide_eq_true (by assumption); have q27004 : t27002 < (l0.length : Int) := of_decide_eq_true (by assumption); obtain ⟨ad27004, e27004, hx27004_0, hx27004_1, hx27004_2⟩ := at_T44 HR0.out t27002 p27004 q27004; cases e27004; replace hx27004_0 := (HB.out.cell (World.block_lt_of_cell? w _ hx27004_0)).trans hx27004_0; replace hx27004_1 := (HB.out.cell (World.block_lt_of_cell? w _ hx27004_1)).trans hx27004_1; replace hx27004_2 := (HB.out.cell (World.block_lt_of_cell? w _ hx27004_2)).trans hx27004_2; replace p27004 := eq_true p27004; replace q27004 := eq_true q27004) | ((with_reducible refine gate_callee (f := 48) rfl ?_); refine goesL_ (some 27) rfl rfl Try.func48 (by kernel_rfl) rfl #[.agg #[.int .i64 ((rd_T44 l0 t27002).f0), .int .i64 ((rd_T44 l0 t27002).f1), .bool ((rd_T44 l0 t27002).f2)], .int .i64 t27003] rfl (by (try simp only [List.map_toArray, List.map_cons, List.map_nil]); first | done | rfl | (simp only [List.length_drop, List.length_take]; rfl)) ?_; (with_reducible refine (papermillref13_image.calls ((rd_T44 l0 t27002).f0) ((rd_T44 l0 t27002).f1) ((rd_T44 l0 t27002).f2) t27003 t27005 _ A10.out).mono ?_); rintro e w12 ⟨rfl, hb⟩; refine ⟨_, rfl, ?_⟩; have n0_ := Aside0.mk (below_step (by repeat (first | exact HB.out | apply below_alloc | apply pw_below_drewN | apply below_drew1)) hb); clear HB; have HB := n0_; clear n0_; (try clear hb); (try clear hb2); (try clear hk); (try clear hi)))
     go_ret2
     exact ⟨by first | rfl | (simp [errW_none, errW_some] <;> rfl) | (simp [*, errW_none, errW_some] <;> rfl), by repeat (first | exact HB.out | apply below_alloc | apply pw_below_drewN | apply below_drew1)⟩
    ·rw [if_neg c9] at H
     exact absurd H (by simp)
   ·rw [if_neg c8] at H
    exact absurd H (by simp)
 ·rw [if_neg c4] at H
  have c4b0 : (t27001 == 0) = false := beq_eq_false_iff_ne.mpr c4
  have c4b1 : (t27001 != 0) = true := bne_iff_ne.mpr c4
  simp only [Option.some.injEq, Prod.mk.injEq] at H
  obtain ⟨rfl, rfl⟩ := H
  go_enter Try.func26, Try.ntmps26
  go_wp2_with (first | ((with_reducible refine gate_callee (f := 25) rfl ?_); refine goesL_ (some 10) rfl rfl Try.func25 (by kernel_rfl) rfl #[.slice A0 l0.length c0] rfl (by (try simp only [List.map_toArray, List.map_cons, List.map_nil]); first | done | rfl | (simp only [List.length_drop, List.length_take]; rfl)) ?_; (with_reducible refine (papermillref13_Check.calls k _ _ l0 t27001 _ ?side1 ?side2 A3.out).mono ?_); (case side1 => exact HR0.out); (case side2 => exact HC0.out); rintro e w13 ⟨rfl, hb⟩; refine ⟨_, rfl, ?_⟩; have n0_ := Aside0.mk (below_step (by repeat (first | exact HB.out | apply below_alloc | apply pw_below_drewN | apply below_drew1)) hb); clear HB; have HB := n0_; clear n0_; (try clear hb); (try clear hb2); (try clear hk); (try clear hi)))
  go_ret2
  exact ⟨by first | rfl | (simp [errW_none, errW_some] <;> rfl) | (simp [*, errW_none, errW_some] <;> rfl), by repeat (first | exact HB.out | apply below_alloc | apply pw_below_drewN | apply below_drew1)⟩

end Go.Proofs.Ytalpegglbfobiaa.G

namespace Go.Proofs.Ytalpegglbfobiaa.G
open Go.RowKit Go.Proofs.YtalpegglbfobiaaW.PrintWords Go.Proofs.YtalpegglbfobiaaW.PrintLast Go.Proofs.YtalpegglbfobiaaW.PrintMore
attribute [local go_sem] max2_int min2_int max_two min_two max_three min_three max_four min_four   -- for this text's walks alone
set_option linter.unusedVariables false
set_option linter.unusedSimpArgs false

def papermillref13_Length.f (k : Nat) (l0 : List (S44)) : Option (Int × Int) := (papermillref13_Check.f k l0).bind fun t28001 => (if t28001 = 0 then ((papermillref13_length.f k l0).bind fun t28002 => (some (t28002, 0))) else (some (0, t28001)))
theorem papermillref13_Length.mono : ∀ a0 k, LeO (papermillref13_Length.f k a0) (papermillref13_Length.f (k + 1) a0) := by
 intro a0 k
 unfold papermillref13_Length.f
 repeat' first
   | (with_reducible exact papermillref13_Check.mono _ _)
   | (with_reducible exact papermillref13_length.mono _ _)
   | (with_reducible exact LeO.refl _)
   | (with_reducible exact LeO.none _)
   | (with_reducible refine LeO.ite ?_ ?_)
   | (with_reducible refine LeO.bind ?_ (fun _ => ?_))
   | exact papermillref13_Check.mono _ _
   | exact papermillref13_length.mono _ _
   | exact LeO.none _
   | refine LeO.ite ?_ ?_
   | refine LeO.bind ?_ (fun _ => ?_)
set_option maxHeartbeats 8000000 in
set_option maxRecDepth 100000 in
theorem papermillref13_Length.calls (k : Nat) (A0 : Option Addr) (c0 : Nat) (l0 : List (S44)) (r1 : Int) (r2 : Int) (w : World) (hr0 : Kd.C k44 w A0 l0.length l0) (hc0 : l0.length ≤ c0) (h : papermillref13_Length.f k l0 = some (r1, r2)) :
  Calls Try.prog 27 #[.slice A0 l0.length c0] w fun e w' => e = .returned (.tuple #[.int .i64 r1, .int .i64 r2]) ∧ Below w.heap.size w w' := by
 have HR0 := Aside0.mk hr0
 have HC0 := Aside0.mk hc0
 clear hr0 hc0
 have HB := Aside0.mk (Below.refl w.heap.size w)
 have H : ((papermillref13_Check.f k l0).bind fun t28001 => (if t28001 = 0 then ((papermillref13_length.f k l0).bind fun t28002 => (some (t28002, 0))) else (some (0, t28001)))) = some (r1, r2) := h
 clear h
 replace H := Option.bind_eq_some_iff.mp H
 obtain ⟨t28001, A20, H⟩ := H
 replace H : (if t28001 = 0 then ((papermillref13_length.f k l0).bind fun t28002 => (some (t28002, 0))) else (some (0, t28001))) = some (r1, r2) := H
 have A2 := Aside0.mk A20
 clear A20
 by_cases c3 : t28001 = 0
 ·rw [if_pos c3] at H
  have c3b0 : (t28001 == 0) = true := beq_iff_eq.mpr c3
  have c3b1 : (t28001 != 0) = false := bne_eq_false_iff_eq.mpr c3
  clear c3
  replace H := Option.bind_eq_some_iff.mp H
  obtain ⟨t28002, A40, H⟩ := H
  replace H : (some (t28002, 0)) = some (r1, r2) := H
  have A4 := Aside0.mk A40
  clear A40
  simp only [Option.some.injEq, Prod.mk.injEq] at H
  obtain ⟨rfl, rfl⟩ := H
  go_enter Try.func27, Try.ntmps27
  go_wp2_with (first | ((with_reducible refine gate_callee (f := 25) rfl ?_); refine goesL_ (some 6) rfl rfl Try.func25 (by kernel_rfl) rfl #[.slice A0 l0.length c0] rfl (by (try simp only [List.map_toArray, List.map_cons, List.map_nil]); first | done | rfl | (simp only [List.length_drop, List.length_take]; rfl)) ?_; (with_reducible refine (papermillref13_Check.calls k _ _ l0 t28001 _ ?side1 ?side2 A2.out).mono ?_); (case side1 => exact HR0.out); (case side2 => exact HC0.out); rintro e w5 ⟨rfl, hb⟩; refine ⟨_, rfl, ?_⟩; have n0_ := Aside0.mk (below_step (by repeat (first | exact HB.out | apply below_alloc | apply pw_below_drewN | apply below_drew1)) hb); clear HB; have HB := n0_; clear n0_; (try clear hb); (try clear hb2); (try clear hk); (try clear hi)) | ((with_reducible refine gate_callee (f := 46) rfl ?_); refine goesL_ (some 11) rfl rfl Try.func46 (by kernel_rfl) rfl #[.slice A0 l0.length c0] rfl (by (try simp only [List.map_toArray, List.map_cons, List.map_nil]); first | done | rfl | (simp only [List.length_drop, List.length_take]; rfl)) ?_; (with_reducible refine (papermillref13_length.calls k _ _ l0 t28002 _ ?side1 ?side2 A4.out).mono ?_); (case side1 => exact (Kd.C_below HR0.out HB.out)); (case side2 => exact HC0.out); rintro e w' ⟨rfl, ⟨nd, rfl⟩⟩; refine ⟨_, rfl, ?_⟩))
  go_ret2
  exact ⟨by first | rfl | (simp [errW_none, errW_some] <;> rfl) | (simp [*, errW_none, errW_some] <;> rfl), by repeat (first | exact HB.out | apply below_alloc | apply pw_below_drewN | apply below_drew1)⟩
 ·rw [if_neg c3] at H
  have c3b0 : (t28001 == 0) = false := beq_eq_false_iff_ne.mpr c3
  have c3b1 : (t28001 != 0) = true := bne_iff_ne.mpr c3
  simp only [Option.some.injEq, Prod.mk.injEq] at H
  obtain ⟨rfl, rfl⟩ := H
  go_enter Try.func27, Try.ntmps27
  go_wp2_with (first | ((with_reducible refine gate_callee (f := 25) rfl ?_); refine goesL_ (some 6) rfl rfl Try.func25 (by kernel_rfl) rfl #[.slice A0 l0.length c0] rfl (by (try simp only [List.map_toArray, List.map_cons, List.map_nil]); first | done | rfl | (simp only [List.length_drop, List.length_take]; rfl)) ?_; (with_reducible refine (papermillref13_Check.calls k _ _ l0 t28001 _ ?side1 ?side2 A2.out).mono ?_); (case side1 => exact HR0.out); (case side2 => exact HC0.out); rintro e w6 ⟨rfl, hb⟩; refine ⟨_, rfl, ?_⟩; have n0_ := Aside0.mk (below_step (by repeat (first | exact HB.out | apply below_alloc | apply pw_below_drewN | apply below_drew1)) hb); clear HB; have HB := n0_; clear n0_; (try clear hb); (try clear hb2); (try clear hk); (try clear hi)))
  go_ret2
  exact ⟨by first | rfl | (simp [errW_none, errW_some] <;> rfl) | (simp [*, errW_none, errW_some] <;> rfl), by repeat (first | exact HB.out | apply below_alloc | apply pw_below_drewN | apply below_drew1)⟩

end Go.Proofs.Ytalpegglbfobiaa.G

namespace Go.Proofs.Ytalpegglbfobiaa.G
open Go.RowKit Go.Proofs.YtalpegglbfobiaaW.PrintWords Go.Proofs.YtalpegglbfobiaaW.PrintLast Go.Proofs.YtalpegglbfobiaaW.PrintMore
attribute [local go_sem] max2_int min2_int max_two min_two max_three min_three max_four min_four   -- for this text's walks alone
set_option linter.unusedVariables false
set_option linter.unusedSimpArgs false

def papermillref41_Backwards.f (k : Nat) (l0 : List (S44)) : Option (Bool × Int) := (papermillref13_Check.f k l0).bind fun t25001 => (if t25001 = 0 then (if (l0.length : Int) = 0 then (some (false, 10)) else ((papermillref13_Length.f k l0).bind fun bt25002 => ((papermillref13_At.f k l0 0).bind fun bt25004 => ((papermillref13_At.f k l0 (wrap64 (bt25002.1 - 1))).bind fun bt25006 => (some (decide (bt25004.1 > bt25006.1), 0)))))) else (some (false, t25001)))
theorem papermillref41_Backwards.mono : ∀ a0 k, LeO (papermillref41_Backwards.f k a0) (papermillref41_Backwards.f (k + 1) a0) := by
 intro a0 k
 unfold papermillref41_Backwards.f
 repeat' first
   | (with_reducible exact papermillref13_At.mono _ _ _)
   | (with_reducible exact papermillref13_Check.mono _ _)
   | (with_reducible exact papermillref13_Length.mono _ _)
   | (with_reducible exact LeO.refl _)
   | (with_reducible exact LeO.none _)
   | (with_reducible refine LeO.ite ?_ ?_)
   | (with_reducible refine LeO.bind ?_ (fun _ => ?_))
   | exact papermillref13_At.mono _ _ _
   | exact papermillref13_Check.mono _ _
   | exact papermillref13_Length.mono _ _
   | exact LeO.none _
   | refine LeO.ite ?_ ?_
   | refine LeO.bind ?_ (fun _ => ?_)
set_option maxHeartbeats 8000000 in
set_option maxRecDepth 100000 in
theorem papermillref41_Backwards.calls (k : Nat) (A0 : Option Addr) (c0 : Nat) (l0 : List (S44)) (r1 : Bool) (r2 : Int) (w : World) (hr0 : Kd.C k44 w A0 l0.length l0) (hc0 : l0.length ≤ c0) (h : papermillref41_Backwards.f k l0 = some (r1, r2)) :
  Calls Try.prog 24 #[.slice A0 l0.length c0] w fun e w' => e = .returned (.tuple #[.bool r1, .int .i64 r2]) ∧ Below w.heap.size w w' := by
 have HR0 := Aside0.mk hr0
 have HC0 := Aside0.mk hc0
 clear hr0 hc0
 have HB := Aside0.mk (Below.refl w.heap.size w)
 have H : ((papermillref13_Check.f k l0).bind fun t25001 => (if t25001 = 0 then (if (l0.length : Int) = 0 then (some (false, 10)) else ((papermillref13_Length.f k l0).bind fun bt25002 => ((papermillref13_At.f k l0 0).bind fun bt25004 => ((papermillref13_At.f k l0 (wrap64 (bt25002.1 - 1))).bind fun bt25006 => (some (decide (bt25004.1 > bt25006.1), 0)))))) else (some (false, t25001)))) = some (r1, r2) := h
 clear h
 replace H := Option.bind_eq_some_iff.mp H
 obtain ⟨t25001, A20, H⟩ := H
 replace H : (if t25001 = 0 then (if (l0.length : Int) = 0 then (some (false, 10)) else ((papermillref13_Length.f k l0).bind fun bt25002 => ((papermillref13_At.f k l0 0).bind fun bt25004 => ((papermillref13_At.f k l0 (wrap64 (bt25002.1 - 1))).bind fun bt25006 => (some (decide (bt25004.1 > bt25006.1), 0)))))) else (some (false, t25001))) = some (r1, r2) := H
 have A2 := Aside0.mk A20
 clear A20
 by_cases c3 : t25001 = 0
 ·rw [if_pos c3] at H
  have c3b0 : (t25001 == 0) = true := beq_iff_eq.mpr c3
  have c3b1 : (t25001 != 0) = false := bne_eq_false_iff_eq.mpr c3
  clear c3
  by_cases c4 : (l0.length : Int) = 0
  ·rw [if_pos c4] at H
   have c4b0 : ((l0.length : Int) == 0) = true := beq_iff_eq.mpr c4
   have c4b1 : ((l0.length : Int) != 0) = false := bne_eq_false_iff_eq.mpr c4
   clear c4
   simp only [Option.some.injEq, Prod.mk.injEq] at H
   obtain ⟨rfl, rfl⟩ := H
   go_enter Try.func24, Try.ntmps24
   go_wp2_with (first | ((with_reducible refine gate_callee (f := 25) rfl ?_); refine goesL_ (some 12) rfl rfl Try.func25 (by kernel_rfl) rfl #[.slice A0 l0.length c0] rfl (by (try simp only [List.map_toArray, List.map_cons, List.map_nil]); first | done | rfl | (simp only [List.length_drop, List.length_take]; rfl)) ?_; (with_reducible refine (papermillref13_Check.calls k _ _ l0 t25001 _ ?side1 ?side2 A2.out).mono ?_); (case side1 => exact HR0.out); (case side2 => exact HC0.out); rintro e w5 ⟨rfl, hb⟩; refine ⟨_, rfl, ?_⟩; have n0_ := Aside0.mk (below_step (by repeat (first | exact HB.out | apply below_alloc | apply pw_below_drewN | apply below_drew1)) hb); clear HB; have HB := n0_; clear n0_; (try clear hb); (try clear hb2); (try clear hk); (try clear hi)))
   go_ret2
   exact ⟨by first | rfl | (simp [errW_none, errW_some] <;> rfl) | (simp [*, errW_none, errW_some] <;> rfl), by repeat (first | exact HB.out | apply below_alloc | apply pw_below_drewN | apply below_drew1)⟩
  ·rw [if_neg c4] at H
   have c4b0 : ((l0.length : Int) == 0) = false := beq_eq_false_iff_ne.mpr c4
   have c4b1 : ((l0.length : Int) != 0) = true := bne_iff_ne.mpr c4
   have c4b2 : ¬ (l0 = []) := fun h_ => c4 (by rw [h_]; rfl)
   replace H := Option.bind_eq_some_iff.mp H
   obtain ⟨⟨t25002, t25003⟩, A60, H⟩ := H
   replace H : ((papermillref13_At.f k l0 0).bind fun bt25004 => ((papermillref13_At.f k l0 (wrap64 (t25002 - 1))).bind fun bt25006 => (some (decide (bt25004.1 > bt25006.1), 0)))) = some (r1, r2) := H
   have A6 := Aside0.mk A60
   clear A60
   replace H := Option.bind_eq_some_iff.mp H
   obtain ⟨⟨t25004, t25005⟩, A70, H⟩ := H
   replace H : ((papermillref13_At.f k l0 (wrap64 (t25002 - 1))).bind fun bt25006 => (some (decide (t25004 > bt25006.1), 0))) = some (r1, r2) := H
   have A7 := Aside0.mk A70
   clear A70
   replace H := Option.bind_eq_some_iff.mp H
   obtain ⟨⟨t25006, t25007⟩, A80, H⟩ := H
   replace H : (some (decide (t25004 > t25006), 0)) = some (r1, r2) := H
   have A8 := Aside0.mk A80
   clear A80
   simp only [Option.some.injEq, Prod.mk.injEq] at H
   obtain ⟨rfl, rfl⟩ := H
   go_enter Try.func24, Try.ntmps24
   go_wp2_with (first | ((with_reducible refine gate_callee (f := 25) rfl ?_); refine goesL_ (some 12) rfl rfl Try.func25 (by kernel_rfl) rfl #[.slice A0 l0.length c0] rfl (by (try simp only [List.map_toArray, List.map_cons, List.map_nil]); first | done | rfl | (simp only [List.length_drop, List.length_take]; rfl)) ?_; (with_reducible refine (papermillref13_Check.calls k _ _ l0 t25001 _ ?side1 ?side2 A2.out).mono ?_); (case side1 => exact HR0.out); (case side2 => exact HC0.out); rintro e w9 ⟨rfl, hb⟩; refine ⟨_, rfl, ?_⟩; have n0_ := Aside0.mk (below_step (by repeat (first | exact HB.out | apply below_alloc | apply pw_below_drewN | apply below_drew1)) hb); clear HB; have HB := n0_; clear n0_; (try clear hb); (try clear hb2); (try clear hk); (try clear hi)) | ((with_reducible refine gate_callee (f := 27) rfl ?_); refine goesL_ (some 21) rfl rfl Try.func27 (by kernel_rfl) rfl #[.slice A0 l0.length c0] rfl (by (try simp only [List.map_toArray, List.map_cons, List.map_nil]); first | done | rfl | (simp only [List.length_drop, List.length_take]; rfl)) ?_; (with_reducible refine (papermillref13_Length.calls k _ _ l0 t25002 t25003 _ ?side1 ?side2 A6.out).mono ?_); (case side1 => exact (Kd.C_below HR0.out HB.out)); (case side2 => exact HC0.out); rintro e w10 ⟨rfl, hb⟩; refine ⟨_, rfl, ?_⟩; have n0_ := Aside0.mk (below_step (by repeat (first | exact HB.out | apply below_alloc | apply pw_below_drewN | apply below_drew1)) hb); clear HB; have HB := n0_; clear n0_; (try clear hb); (try clear hb2); (try clear hk); (try clear hi)) | ((with_reducible refine gate_callee (f := 26) rfl ?_); refine goesL_ (some 26) rfl rfl Try.func26 (by kernel_rfl) rfl #[.slice A0 l0.length c0, .int .i64 0] rfl (by (try simp only [List.map_toArray, List.map_cons, List.map_nil]); first | done | rfl | (simp only [List.length_drop, List.length_take]; rfl)) ?_; (with_reducible refine (papermillref13_At.calls k _ _ l0 0 t25004 t25005 _ ?side1 ?side2 A7.out).mono ?_); (case side1 => exact (Kd.C_below HR0.out HB.out)); (case side2 => exact HC0.out); rintro e w11 ⟨rfl, hb⟩; refine ⟨_, rfl, ?_⟩; have n0_ := Aside0.mk (below_step (by repeat (first | exact HB.out | apply below_alloc | apply pw_below_drewN | apply below_drew1)) hb); clear HB; have HB := n0_; clear n0_; (try clear hb); (try clear hb2); (try clear hk); (try clear hi)) | ((with_reducible refine gate_callee (f := 26) rfl ?_); refine goesL_ (some 33) rfl rfl Try.func26 (by kernel_rfl) rfl #[.slice A0 l0.length c0, .int .i64 (wrap64 (t25002 - 1))] rfl (by (try simp only [List.map_toArray, List.map_cons, List.map_nil]); first | done | rfl | (simp only [List.length_drop, List.length_take]; rfl)) ?_; (with_reducible refine (papermillref13_At.calls k _ _ l0 (wrap64 (t25002 - 1)) t25006 t25007 _ ?side1 ?side2 A8.out).mono ?_); (case side1 => exact (Kd.C_below HR0.out HB.out)); (case side2 => exact HC0.out); rintro e w12 ⟨rfl, hb⟩; refine ⟨_, rfl, ?_⟩; have n0_ := Aside0.mk (below_step (by repeat (first | exact HB.out | apply below_alloc | apply pw_below_drewN | apply below_drew1)) hb); clear HB; have HB := n0_; clear n0_; (try clear hb); (try clear hb2); (try clear hk); (try clear hi)))
   go_ret2
   exact ⟨by first | rfl | (simp [errW_none, errW_some] <;> rfl) | (simp [*, errW_none, errW_some] <;> rfl), by repeat (first | exact HB.out | apply below_alloc | apply pw_below_drewN | apply below_drew1)⟩
 ·rw [if_neg c3] at H
  have c3b0 : (t25001 == 0) = false := beq_eq_false_iff_ne.mpr c3
  have c3b1 : (t25001 != 0) = true := bne_iff_ne.mpr c3
  simp only [Option.some.injEq, Prod.mk.injEq] at H
  obtain ⟨rfl, rfl⟩ := H
  go_enter Try.func24, Try.ntmps24
  go_wp2_with (first | ((with_reducible refine gate_callee (f := 25) rfl ?_); refine goesL_ (some 12) rfl rfl Try.func25 (by kernel_rfl) rfl #[.slice A0 l0.length c0] rfl (by (try simp only [List.map_toArray, List.map_cons, List.map_nil]); first | done | rfl | (simp only [List.length_drop, List.length_take]; rfl)) ?_; (with_reducible refine (papermillref13_Check.calls k _ _ l0 t25001 _ ?side1 ?side2 A2.out).mono ?_); (case side1 => exact HR0.out); (case side2 => exact HC0.out); rintro e w13 ⟨rfl, hb⟩; refine ⟨_, rfl, ?_⟩; have n0_ := Aside0.mk (below_step (by repeat (first | exact HB.out | apply below_alloc | apply pw_below_drewN | apply below_drew1)) hb); clear HB; have HB := n0_; clear n0_; (try clear hb); (try clear hb2); (try clear hk); (try clear hi)))
  go_ret2
  exact ⟨by first | rfl | (simp [errW_none, errW_some] <;> rfl) | (simp [*, errW_none, errW_some] <;> rfl), by repeat (first | exact HB.out | apply below_alloc | apply pw_below_drewN | apply below_drew1)⟩

end Go.Proofs.Ytalpegglbfobiaa.G

namespace Go.Proofs.Ytalpegglbfobiaa.G
open Go.RowKit Go.Proofs.YtalpegglbfobiaaW.PrintWords Go.Proofs.YtalpegglbfobiaaW.PrintLast Go.Proofs.YtalpegglbfobiaaW.PrintMore
attribute [local go_sem] max2_int min2_int max_two min_two max_three min_three max_four min_four   -- for this text's walks alone
set_option linter.unusedVariables false
set_option linter.unusedSimpArgs false

def papermilllaw41_RewindBacks.f (k : Nat) (l0 : List (S44)) : Option (Bool) := if (l0.length : Int) > 300 then ((papermilllaw41_awake.f).bind fun t8001 => (some t8001)) else ((rewind_Backwards.f k l0).bind fun bt8002 => ((papermillref41_Backwards.f k l0).bind fun bt8004 => (if (bt8002.1 == bt8004.1) = true then (if bt8002.2 = bt8004.2 then ((papermilllaw41_awake.f).bind fun t8006 => (some t8006)) else (some false)) else (some false))))
set_option maxHeartbeats 8000000 in
set_option maxRecDepth 100000 in
theorem papermilllaw41_RewindBacks.calls (k : Nat) (A0 : Option Addr) (c0 : Nat) (l0 : List (S44)) (r : Bool) (w : World) (hr0 : Kd.C k44 w A0 l0.length l0) (hc0 : l0.length ≤ c0) (h : papermilllaw41_RewindBacks.f k l0 = some r) :
  Calls Try.prog 7 #[.slice A0 l0.length c0] w fun e w' => e = .returned (.bool r) ∧ Below w.heap.size w w' := by
 have HR0 := Aside0.mk hr0
 have HC0 := Aside0.mk hc0
 clear hr0 hc0
 have HB := Aside0.mk (Below.refl w.heap.size w)
 have H : (if (l0.length : Int) > 300 then ((papermilllaw41_awake.f).bind fun t8001 => (some t8001)) else ((rewind_Backwards.f k l0).bind fun bt8002 => ((papermillref41_Backwards.f k l0).bind fun bt8004 => (if (bt8002.1 == bt8004.1) = true then (if bt8002.2 = bt8004.2 then ((papermilllaw41_awake.f).bind fun t8006 => (some t8006)) else (some false)) else (some false))))) = some r := h
 clear h
 by_cases c2 : (l0.length : Int) > 300
 ·rw [if_pos c2] at H
  have c2b0 : decide (300 < (l0.length : Int)) = true := decide_eq_true c2
  have c2b1 : decide (300 < l0.length) = true := decide_eq_true (by omega)
  clear c2
  replace H := Option.bind_eq_some_iff.mp H
  obtain ⟨t8001, A30, H⟩ := H
  replace H : (some t8001) = some r := H
  have A3 := Aside0.mk A30
  clear A30
  obtain rfl := Option.some.inj H
  go_enter Try.func7, Try.ntmps7
  go_wp2_with (first | ((with_reducible refine gate_callee (f := 14) rfl ?_); refine goesL_ (some 10) rfl rfl Try.func14 (by kernel_rfl) rfl #[] rfl (by (try simp only [List.map_toArray, List.map_cons, List.map_nil]); first | done | rfl | (simp only [List.length_drop, List.length_take]; rfl)) ?_; (with_reducible refine (papermilllaw41_awake.calls  t8001 _ A3.out).mono ?_); rintro e w4 ⟨rfl, hb⟩; refine ⟨_, rfl, ?_⟩; have n0_ := Aside0.mk (below_step (by repeat (first | exact HB.out | apply below_alloc | apply pw_below_drewN | apply below_drew1)) hb); clear HB; have HB := n0_; clear n0_; (try clear hb); (try clear hb2); (try clear hk); (try clear hi)))
  go_ret
  exact ⟨by first | rfl | (simp [errW_none, errW_some] <;> rfl) | (simp [*, errW_none, errW_some] <;> rfl), by repeat (first | exact HB.out | apply below_alloc | apply pw_below_drewN | apply below_drew1)⟩
 ·rw [if_neg c2] at H
  have c2b0 : decide (300 < (l0.length : Int)) = false := decide_eq_false c2
  have c2b1 : decide (300 < l0.length) = false := decide_eq_false (by omega)
  clear c2
  replace H := Option.bind_eq_some_iff.mp H
  obtain ⟨⟨t8002, t8003⟩, A50, H⟩ := H
  replace H : ((papermillref41_Backwards.f k l0).bind fun bt8004 => (if (t8002 == bt8004.1) = true then (if t8003 = bt8004.2 then ((papermilllaw41_awake.f).bind fun t8006 => (some t8006)) else (some false)) else (some false))) = some r := H
  have A5 := Aside0.mk A50
  clear A50
  replace H := Option.bind_eq_some_iff.mp H
  obtain ⟨⟨t8004, t8005⟩, A60, H⟩ := H
  replace H : (if (t8002 == t8004) = true then (if t8003 = t8005 then ((papermilllaw41_awake.f).bind fun t8006 => (some t8006)) else (some false)) else (some false)) = some r := H
  have A6 := Aside0.mk A60
  clear A60
  by_cases c7 : (t8002 == t8004) = true
  ·rw [if_pos c7] at H
   have c7b0 : (t8002 == t8004) = true := c7
   (try (have c7b1 : decide (t8002 = t8004) = true := by simpa using c7))
   (try (have c7b2 : (t8002 == t8004) = true := by simpa using c7))
   clear c7
   by_cases c8 : t8003 = t8005
   ·rw [if_pos c8] at H
    have c8b0 : (t8003 == t8005) = true := beq_iff_eq.mpr c8
    have c8b1 : (t8003 != t8005) = false := bne_eq_false_iff_eq.mpr c8
    clear c8
    replace H := Option.bind_eq_some_iff.mp H
    obtain ⟨t8006, A90, H⟩ := H
    replace H : (some t8006) = some r := H
    have A9 := Aside0.mk A90
    clear A90
    obtain rfl := Option.some.inj H
    go_enter Try.func7, Try.ntmps7
    go_wp2_with (first | ((with_reducible refine gate_callee (f := 23) rfl ?_); refine goesL_ (some 13) rfl rfl Try.func23 (by kernel_rfl) rfl #[.slice A0 l0.length c0] rfl (by (try simp only [List.map_toArray, List.map_cons, List.map_nil]); first | done | rfl | (simp only [List.length_drop, List.length_take]; rfl)) ?_; (with_reducible refine (rewind_Backwards.calls k _ _ l0 t8002 t8003 _ ?side1 ?side2 A5.out).mono ?_); (case side1 => repeat (first | exact HR0.out | (with_reducible refine Kd.C_alloc ?_ _) | (with_reducible refine Kd.C_drewN ?_ _) | (with_reducible refine Kd.C_drew ?_))); (case side2 => exact HC0.out); rintro e w10 ⟨rfl, hb⟩; refine ⟨_, rfl, ?_⟩; have n0_ := Aside0.mk (below_step (by repeat (first | exact HB.out | apply below_alloc | apply pw_below_drewN | apply below_drew1)) hb); clear HB; have HB := n0_; clear n0_; (try clear hb); (try clear hb2); (try clear hk); (try clear hi)) | ((with_reducible refine gate_callee (f := 24) rfl ?_); refine goesL_ (some 18) rfl rfl Try.func24 (by kernel_rfl) rfl #[.slice A0 l0.length c0] rfl (by (try simp only [List.map_toArray, List.map_cons, List.map_nil]); first | done | rfl | (simp only [List.length_drop, List.length_take]; rfl)) ?_; (with_reducible refine (papermillref41_Backwards.calls k _ _ l0 t8004 t8005 _ ?side1 ?side2 A6.out).mono ?_); (case side1 => repeat (first | exact (Kd.C_below HR0.out HB.out) | (with_reducible refine Kd.C_alloc ?_ _) | (with_reducible refine Kd.C_drewN ?_ _) | (with_reducible refine Kd.C_drew ?_))); (case side2 => exact HC0.out); rintro e w11 ⟨rfl, hb⟩; refine ⟨_, rfl, ?_⟩; have n0_ := Aside0.mk (below_step (by repeat (first | exact HB.out | apply below_alloc | apply pw_below_drewN | apply below_drew1)) hb); clear HB; have HB := n0_; clear n0_; (try clear hb); (try clear hb2); (try clear hk); (try clear hi)) | (go_at_call 14; (with_reducible refine (papermilllaw41_awake.calls  t8006 _ A9.out).mono ?_); rintro e w12 ⟨rfl, hb⟩; have n0_ := Aside0.mk (below_step (by repeat (first | exact HB.out | apply below_alloc | apply pw_below_drewN | apply below_drew1)) hb); clear HB; have HB := n0_; clear n0_; (try clear hb); (try clear hb2); (try clear hk); (try clear hi)))
    go_ret
    exact ⟨by first | rfl | (simp [errW_none, errW_some] <;> rfl) | (simp [*, errW_none, errW_some] <;> rfl), by repeat (first | exact HB.out | apply below_alloc | apply pw_below_drewN | apply below_drew1)⟩
   ·rw [if_neg c8] at H
    have c8b0 : (t8003 == t8005) = false := beq_eq_false_iff_ne.mpr c8
    have c8b1 : (t8003 != t8005) = true := bne_iff_ne.mpr c8
    obtain rfl := Option.some.inj H
    go_enter Try.func7, Try.ntmps7
    go_wp2_with (first | ((with_reducible refine gate_callee (f := 23) rfl ?_); refine goesL_ (some 13) rfl rfl Try.func23 (by kernel_rfl) rfl #[.slice A0 l0.length c0] rfl (by (try simp only [List.map_toArray, List.map_cons, List.map_nil]); first | done | rfl | (simp only [List.length_drop, List.length_take]; rfl)) ?_; (with_reducible refine (rewind_Backwards.calls k _ _ l0 t8002 t8003 _ ?side1 ?side2 A5.out).mono ?_); (case side1 => repeat (first | exact HR0.out | (with_reducible refine Kd.C_alloc ?_ _) | (with_reducible refine Kd.C_drewN ?_ _) | (with_reducible refine Kd.C_drew ?_))); (case side2 => exact HC0.out); rintro e w13 ⟨rfl, hb⟩; refine ⟨_, rfl, ?_⟩; have n0_ := Aside0.mk (below_step (by repeat (first | exact HB.out | apply below_alloc | apply pw_below_drewN | apply below_drew1)) hb); clear HB; have HB := n0_; clear n0_; (try clear hb); (try clear hb2); (try clear hk); (try clear hi)) | ((with_reducible refine gate_callee (f := 24) rfl ?_); refine goesL_ (some 18) rfl rfl Try.func24 (by kernel_rfl) rfl #[.slice A0 l0.length c0] rfl (by (try simp only [List.map_toArray, List.map_cons, List.map_nil]); first | done | rfl | (simp only [List.length_drop, List.length_take]; rfl)) ?_; (with_reducible refine (papermillref41_Backwards.calls k _ _ l0 t8004 t8005 _ ?side1 ?side2 A6.out).mono ?_); (case side1 => repeat (first | exact (Kd.C_below HR0.out HB.out) | (with_reducible refine Kd.C_alloc ?_ _) | (with_reducible refine Kd.C_drewN ?_ _) | (with_reducible refine Kd.C_drew ?_))); (case side2 => exact HC0.out); rintro e w14 ⟨rfl, hb⟩; refine ⟨_, rfl, ?_⟩; have n0_ := Aside0.mk (below_step (by repeat (first | exact HB.out | apply below_alloc | apply pw_below_drewN | apply below_drew1)) hb); clear HB; have HB := n0_; clear n0_; (try clear hb); (try clear hb2); (try clear hk); (try clear hi)))
    go_ret
    exact ⟨by first | rfl | (simp [errW_none, errW_some] <;> rfl) | (simp [*, errW_none, errW_some] <;> rfl), by repeat (first | exact HB.out | apply below_alloc | apply pw_below_drewN | apply below_drew1)⟩
  ·rw [if_neg c7] at H
   have c7b0 : (t8002 == t8004) = false := by simpa using c7
   (try (have c7b1 : decide (t8002 = t8004) = false := by simpa using c7))
   (try (have c7b2 : (t8002 == t8004) = false := by simpa using c7))
   (try (have c7b3 : ¬ (t8002 = t8004) := by simpa using c7))
   clear c7
   obtain rfl := Option.some.inj H
   go_enter Try.func7, Try.ntmps7
   go_wp2_with (first | ((with_reducible refine gate_callee (f := 23) rfl ?_); refine goesL_ (some 13) rfl rfl Try.func23 (by kernel_rfl) rfl #[.slice A0 l0.length c0] rfl (by (try simp only [List.map_toArray, List.map_cons, List.map_nil]); first | done | rfl | (simp only [List.length_drop, List.length_take]; rfl)) ?_; (with_reducible refine (rewind_Backwards.calls k _ _ l0 t8002 t8003 _ ?side1 ?side2 A5.out).mono ?_); (case side1 => repeat (first | exact HR0.out | (with_reducible refine Kd.C_alloc ?_ _) | (with_reducible refine Kd.C_drewN ?_ _) | (with_reducible refine Kd.C_drew ?_))); (case side2 => exact HC0.out); rintro e w15 ⟨rfl, hb⟩; refine ⟨_, rfl, ?_⟩; have n0_ := Aside0.mk (below_step (by repeat (first | exact HB.out | apply below_alloc | apply pw_below_drewN | apply below_drew1)) hb); clear HB; have HB := n0_; clear n0_; (try clear hb); (try clear hb2); (try clear hk); (try clear hi)) | ((with_reducible refine gate_callee (f := 24) rfl ?_); refine goesL_ (some 18) rfl rfl Try.func24 (by kernel_rfl) rfl #[.slice A0 l0.length c0] rfl (by (try simp only [List.map_toArray, List.map_cons, List.map_nil]); first | done | rfl | (simp only [List.length_drop, List.length_take]; rfl)) ?_; (with_reducible refine (papermillref41_Backwards.calls k _ _ l0 t8004 t8005 _ ?side1 ?side2 A6.out).mono ?_); (case side1 => repeat (first | exact (Kd.C_below HR0.out HB.out) | (with_reducible refine Kd.C_alloc ?_ _) | (with_reducible refine Kd.C_drewN ?_ _) | (with_reducible refine Kd.C_drew ?_))); (case side2 => exact HC0.out); rintro e w16 ⟨rfl, hb⟩; refine ⟨_, rfl, ?_⟩; have n0_ := Aside0.mk (below_step (by repeat (first | exact HB.out | apply below_alloc | apply pw_below_drewN | apply below_drew1)) hb); clear HB; have HB := n0_; clear n0_; (try clear hb); (try clear hb2); (try clear hk); (try clear hi)))
   go_ret
   exact ⟨by first | rfl | (simp [errW_none, errW_some] <;> rfl) | (simp [*, errW_none, errW_some] <;> rfl), by repeat (first | exact HB.out | apply below_alloc | apply pw_below_drewN | apply below_drew1)⟩

end Go.Proofs.Ytalpegglbfobiaa.G

namespace Go.Proofs.Ytalpegglbfobiaa.G
open Go.RowKit Go.Proofs.YtalpegglbfobiaaW.PrintWords Go.Proofs.YtalpegglbfobiaaW.PrintLast Go.Proofs.YtalpegglbfobiaaW.PrintMore
open Go.ChangeShapes Go.WideShapes Go.Deep
set_option linter.unusedVariables false
set_option linter.unusedSimpArgs false
theorem cells1_3 : Try.prog.cellsOf 3 = 1 := by kernel_rfl
def wf_44 (s : S44) : Prop := (Lit.int .i64 s.f0).wf = true ∧ (Lit.int .i64 s.f1).wf = true ∧ True
theorem cells_44 : Try.prog.cellsOf 44 = 3 := by kernel_rfl
theorem cells1_4 : Try.prog.cellsOf 4 = 1 := by kernel_rfl
set_option maxRecDepth 100000 in
theorem opens_44 : Opens Try.prog k44 44 wf_44 := by
 intro H enc W fuel cs x h
 obtain ⟨xs, n, rfl, rfl, hlen, hxl, hf⟩ := DataW.trod_struct Try.underlying44 h
 rw [cells_44] at hlen
 match cs, hlen with
 | [c0, c1, c2], _ =>
  match xs, hxl with
  | [y0, y1, y2], _ =>
   have e0 : DataW.trod enc Try.prog W 0 (fun _ => true) true n 3 (([c0, c1, c2].drop 0).take (Try.prog.cellsOf 3)) = some y0 := hf 0 _ rfl
   rw [cells1_3] at e0
   have e1 : DataW.trod enc Try.prog W 0 (fun _ => true) true n 3 (([c0, c1, c2].drop 1).take (Try.prog.cellsOf 3)) = some y1 := hf 1 _ rfl
   rw [cells1_3] at e1
   have e2 : DataW.trod enc Try.prog W 0 (fun _ => true) true n 4 (([c0, c1, c2].drop 2).take (Try.prog.cellsOf 4)) = some y2 := hf 2 _ rfl
   rw [cells1_4] at e2
   obtain ⟨v0, q0, w0⟩ := (Opens.int Try.underlying3) enc W n [c0] y0 e0
   cases q0
   obtain ⟨v1, q1, w1⟩ := (Opens.int Try.underlying3) enc W n [c1] y1 e1
   cases q1
   obtain ⟨v2, q2, w2⟩ := (Opens.bool Try.underlying4) enc W n [c2] y2 e2
   cases q2
   exact ⟨⟨v0, v1, v2⟩, k44_mk _ _, w0, w1, w2⟩
end Go.Proofs.Ytalpegglbfobiaa.G

namespace Go.Proofs.Ytalpegglbfobiaa.G
open Go.RowKit Go.Proofs.YtalpegglbfobiaaW.PrintWords Go.Proofs.YtalpegglbfobiaaW.PrintLast Go.Proofs.YtalpegglbfobiaaW.PrintMore
set_option linter.unusedVariables false
set_option linter.unusedSimpArgs false
theorem rgood_ends (r : S44) : Ends (fun k => papermillref13_good.f k r.f0 r.f1 r.f2) (decide (¬ badR r)) := by
 have key : ∀ z : Bool, z = decide (r.f1 < 1 ∨ r.f1 > 17179869184 ∨ r.f0 < 0 ∨ r.f0 ≥ 17179869184) → Ends (fun k => papermillref13_good.j0 k z r.f0 r.f1 r.f2) (decide (¬ badR r)) := fun z hz => by
  refine Ends.succ ?_
  simp only [papermillref13_good.j0]
  by_cases hb : r.f1 < 1 ∨ r.f1 > 17179869184 ∨ r.f0 < 0 ∨ r.f0 ≥ 17179869184
  ·exact Ends.pos (by rw [hz]; simpa using hb) ((Ends.ret false).congr (by symm; rw [decide_eq_false_iff_not, Classical.not_not]; unfold badR; omega))
  ·refine Ends.neg (by rw [hz]; simpa using hb) ?_
   cases hf : r.f2 with
   | true =>
    have ew : wrap64 (wrap64 (r.f0 - r.f1) + 1) = r.f0 - r.f1 + 1 := by
     have : wrap64 (r.f0 - r.f1) = r.f0 - r.f1 := by unfold wrap64; omega
     rw [this]; unfold wrap64; omega
    refine Ends.pos rfl ((Ends.ret _).congr ?_)
    rw [ew]
    unfold badR
    rw [decide_eq_decide]
    simp [hf]
    omega
   | false =>
    have ew : wrap64 (r.f0 + r.f1) = r.f0 + r.f1 := by unfold wrap64; omega
    refine Ends.neg (by simp) ((Ends.ret _).congr ?_)
    rw [ew]
    unfold badR
    rw [decide_eq_decide]
    simp [hf]
    omega
 unfold papermillref13_good.f
 by_cases c1 : r.f1 < 1
 ·exact Ends.pos c1 (key true (by simp [c1]))
 ·refine Ends.neg c1 ?_
  by_cases c2 : r.f1 > 17179869184
  ·exact Ends.pos c2 (key true (by simp [c2]))
  ·refine Ends.neg c2 ?_
   by_cases c3 : r.f0 < 0
   ·exact Ends.pos c3 (key true (by simp [c3]))
   ·exact Ends.neg c3 (key _ (by simp [c1, c2, c3]))
theorem rlength_l0 (l : List S44) (hl : l.length ≤ 65536) (hv : ∀ r ∈ l, 0 ≤ r.f1 ∧ r.f1 ≤ 17179869184) : ∀ (d i : Nat) (n : Int), l.length - i = d → i ≤ l.length → 0 ≤ n → n ≤ i * 17179869184 → Ends (fun k => papermillref13_length.l0 k l n (i : Int)) (n + tot13 (l.drop i)) := by
 intro d
 induction d with
 | zero =>
  intro i n hd hi h0 h1
  refine Ends.succ ?_
  simp only [papermillref13_length.l0]
  rw [List.drop_of_length_le (by omega)]
  exact Ends.neg (by omega) ((Ends.ret _).congr (by simp [tot13]))
 | succ d ih =>
  intro i n hd hi h0 h1
  refine Ends.succ ?_
  have hx := hv (rd_T44 l (i : Int)) (by rw [rdR l i (by omega)]; exact List.getElem_mem _)
  rw [dropR l i (by omega), tot13_cons]
  simp only [papermillref13_length.l0, wrap_nat i (by omega)]
  generalize rd_T44 l (i : Int) = r at *
  have ew : wrap64 (n + r.f1) = n + r.f1 := by unfold wrap64; omega
  rw [ew]
  exact Ends.pos (by omega) (Ends.pos (by omega) ((ih (i + 1) (n + r.f1) (by omega) (by omega) (by omega) (by omega)).congr (by rw [Int.add_assoc])))
theorem rlength_ends (l : List S44) (hl : l.length ≤ 65536) (hv : ∀ r ∈ l, 0 ≤ r.f1 ∧ r.f1 ≤ 17179869184) : Ends (fun k => papermillref13_length.f k l) (tot13 l) := by
 unfold papermillref13_length.f
 exact (rlength_l0 l hl hv _ 0 0 rfl (by omega) (by omega) (by omega)).congr (by simp)
theorem rcheck_l0 (l : List S44) (hl : l.length ≤ 256) : ∀ (d i : Nat), l.length - i = d → i ≤ l.length → anyBad (l.take i) = false → Ends (fun k => papermillref13_Check.l0 k l (i : Int)) (if anyBad l = true then 1 else if tot13 l > 17179869184 then 21 else 0) := by
 intro d
 induction d with
 | zero =>
  intro i hd hi hn
  refine Ends.succ ?_
  simp only [papermillref13_Check.l0]
  rw [List.take_of_length_le (by omega)] at hn
  have hg : ∀ r ∈ l, ¬ badR r := fun r hr hb => by
   have : anyBad l = true := List.any_eq_true.mpr ⟨r, hr, by simpa using hb⟩
   rw [hn] at this; cases this
  refine Ends.neg (by omega) (Ends.bind (rlength_ends l (by omega) (fun r hr => by have := fit_of (hg r hr); unfold fitR at this; omega)) ?_)
  by_cases h : tot13 l > 17179869184
  ·exact Ends.pos h ((Ends.ret 21).congr (by rw [hn, if_neg (by simp), if_pos h]))
  ·exact Ends.neg h ((Ends.ret 0).congr (by rw [hn, if_neg (by simp), if_neg h]))
 | succ d ih =>
  intro i hd hi hn
  refine Ends.succ ?_
  simp only [papermillref13_Check.l0, wrap_nat i (by omega)]
  have hmem : rd_T44 l (i : Int) ∈ l := by rw [rdR l i (by omega)]; exact List.getElem_mem _
  have htk : l.take (i + 1) = l.take i ++ [rd_T44 l (i : Int)] := by rw [List.take_succ_eq_append_getElem (by omega : i < l.length), rdR l i (by omega)]
  generalize rd_T44 l (i : Int) = r at *
  refine Ends.pos (by omega) (Ends.pos (by omega) (Ends.bind (rgood_ends r) ?_))
  by_cases hb : badR r
  ·have : anyBad l = true := List.any_eq_true.mpr ⟨r, hmem, by simpa using hb⟩
   rw [if_pos this]
   exact Ends.neg (by simpa using hb) (Ends.ret _)
  ·exact Ends.pos (by simpa using hb) (ih (i + 1) (by omega) (by omega) (by rw [htk]; simp only [anyBad, List.any_append] at hn ⊢; rw [hn]; simpa using hb))
theorem rcheck_ends (l : List S44) : Ends (fun k => papermillref13_Check.f k l) (check13 l) := by
 unfold papermillref13_Check.f check13
 by_cases h : l.length > 256
 ·rw [if_pos h]; exact Ends.pos (by omega) (Ends.ret _)
 ·rw [if_neg h]
  exact Ends.neg (by omega) (rcheck_l0 l (by omega) _ 0 rfl (by omega) (by simp [anyBad]))
end Go.Proofs.Ytalpegglbfobiaa.G

namespace Go.Proofs.Ytalpegglbfobiaa.G
open Go.RowKit Go.Proofs.YtalpegglbfobiaaW.PrintWords Go.Proofs.YtalpegglbfobiaaW.PrintLast Go.Proofs.YtalpegglbfobiaaW.PrintMore
set_option linter.unusedVariables false
set_option linter.unusedSimpArgs false
def placeGo : List S44 → Int → Int → Int × Int
 | [], _, _ => (-1, 0)
 | r :: b, i, y => if y < r.f1 then (i, y) else placeGo b (i + 1) (y - r.f1)
theorem rplace_l0 (b : List S44) (hb : b.length ≤ 256) (hv : ∀ r ∈ b, 0 ≤ r.f1 ∧ r.f1 ≤ 17179869184) : ∀ (d i : Nat) (y : Int), b.length - i = d → i ≤ b.length → 0 ≤ y → y ≤ 1099511627776 → Ends (fun k => papermillref13_place.l0 k b y (i : Int)) (placeGo (b.drop i) i y) := by
 intro d
 induction d with
 | zero =>
  intro i y hd hi h0 h1
  refine Ends.succ ?_
  simp only [papermillref13_place.l0]
  rw [List.drop_of_length_le (by omega)]
  refine Ends.neg (by omega) (Ends.succ ?_)
  simp only [papermillref13_place.j1]
  exact Ends.neg (by simp) (Ends.ret _)
 | succ d ih =>
  intro i y hd hi h0 h1
  refine Ends.succ ?_
  have hx := hv (rd_T44 b (i : Int)) (by rw [rdR b i (by omega)]; exact List.getElem_mem _)
  rw [dropR b i (by omega)]
  simp only [papermillref13_place.l0, placeGo]
  refine Ends.pos (by omega) (Ends.succ ?_)
  simp only [papermillref13_place.j1, wrap_nat i (by omega)]
  generalize rd_T44 b (i : Int) = r at *
  have ew : wrap64 (y - r.f1) = y - r.f1 := by unfold wrap64; omega
  refine Ends.pos (by simpa using h0) (Ends.pos (by omega) (Ends.pos (by omega) ?_))
  by_cases h : y < r.f1
  ·rw [if_pos h]; exact Ends.pos h (Ends.ret _)
  ·rw [if_neg h, ew]
   exact Ends.neg h (ih (i + 1) (y - r.f1) (by omega) (by omega) (by omega) (by omega))
theorem rplace_ends (b : List S44) (hb : b.length ≤ 256) (hv : ∀ r ∈ b, 0 ≤ r.f1 ∧ r.f1 ≤ 17179869184) (y : Int) (h0 : 0 ≤ y) (h1 : y ≤ 1099511627776) : Ends (fun k => papermillref13_place.f k b y) (placeGo b 0 y) := by
 unfold papermillref13_place.f
 exact (rplace_l0 b hb hv _ 0 y rfl (by omega) h0 h1).congr (by simp)
theorem place_none (b : List S44) : ∀ (i y : Int), tot13 b ≤ y → (∀ r ∈ b, 0 ≤ r.f1) → placeGo b i y = (-1, 0) := by
 induction b with
 | nil => intro i y _ _; rfl
 | cons r b ih =>
  intro i y h hv
  rw [tot13_cons] at h
  have h2 := ih (i + 1) (y - r.f1) (by omega) (fun x hx => hv x (by simp [hx]))
  have h3 : 0 ≤ tot13 b := by
   rw [← sem_len b (fun x hx => hv x (by simp [hx]))]; omega
  simp only [placeGo]
  rw [if_neg (by omega), h2]
theorem look_cons (r : S44) (b : List S44) (h : 0 ≤ r.f1) (y : Int) (h0 : 0 ≤ y) : lookOf (sem (r :: b)) y = if y < r.f1 then img r y else lookOf (sem b) (y - r.f1) := by
 unfold lookOf
 rw [sem_cons, List.getD_eq_getElem?_getD, List.getD_eq_getElem?_getD]
 by_cases hy : y < r.f1
 ·rw [if_pos hy, List.getElem?_append_left (by rw [imgs_len]; omega), imgs_get r y.toNat (by omega), show ((y.toNat : Nat) : Int) = y by omega]
  rfl
 ·rw [if_neg hy, List.getElem?_append_right (by rw [imgs_len]; omega), imgs_len, show y.toNat - r.f1.toNat = (y - r.f1).toNat by omega]
theorem place_some (b : List S44) : ∀ (i : Nat) (y : Int), 0 ≤ y → y < tot13 b → (∀ r ∈ b, 0 ≤ r.f1) → ∃ (j : Nat) (p : Int) (o : S44), placeGo b i y = (((i + j : Nat) : Int), p) ∧ b[j]? = some o ∧ 0 ≤ p ∧ p < o.f1 ∧ ∀ u : Int, 0 ≤ p + u → p + u < o.f1 → (0 ≤ y + u ∧ y + u < tot13 b) ∧ lookOf (sem b) (y + u) = img o (p + u) := by
 induction b with
 | nil => intro i y h0 h1 _; simp [tot13] at h1; omega
 | cons r b ih =>
  intro i y h0 h1 hv
  have hr := hv r (by simp)
  have hT : 0 ≤ tot13 b := by rw [← sem_len b (fun x hx => hv x (by simp [hx]))]; omega
  rw [tot13_cons] at h1
  simp only [placeGo]
  by_cases hy : y < r.f1
  ·rw [if_pos hy]
   refine ⟨0, y, r, by simp, rfl, h0, hy, fun u hu0 hu1 => ⟨⟨hu0, by rw [tot13_cons]; omega⟩, ?_⟩⟩
   rw [look_cons r b hr _ hu0, if_pos hu1]
  ·rw [if_neg hy]
   obtain ⟨j, p, o, e, ho, hp0, hp1, hu⟩ := ih (i + 1) (y - r.f1) (by omega) (by omega) (fun x hx => hv x (by simp [hx]))
   refine ⟨j + 1, p, o, ?_, by simpa using ho, hp0, hp1, fun u hu0 hu1 => ?_⟩
   ·rw [show ((i : Int) + 1) = ((i + 1 : Nat) : Int) by omega, e]
    congr 1
    omega
   ·obtain ⟨h2, h3⟩ := hu u hu0 hu1
    refine ⟨⟨by omega, by rw [tot13_cons]; omega⟩, ?_⟩
    rw [look_cons r b hr _ (by omega), if_neg (by omega), ← h3, show y + u - r.f1 = y - r.f1 + u by omega]
end Go.Proofs.Ytalpegglbfobiaa.G

namespace Go.Proofs.Ytalpegglbfobiaa.G
open Go.RowKit Go.Proofs.YtalpegglbfobiaaW.PrintWords Go.Proofs.YtalpegglbfobiaaW.PrintLast Go.Proofs.YtalpegglbfobiaaW.PrintMore
set_option linter.unusedVariables false
set_option linter.unusedSimpArgs false
theorem rat_ends (l : List S44) (h : check13 l = 0) (x : Int) (h0 : 0 ≤ x) (h1 : x < tot13 l) : Ends (fun k => papermillref13_At.f k l x) (atOf13 l x) := by
 obtain ⟨hl, hg, ht⟩ := check13_zero h
 have hf : ∀ r ∈ l, 0 ≤ r.f1 ∧ r.f1 ≤ 17179869184 := fun r hr => by have := fit_of (hg r hr); unfold fitR at this; omega
 unfold papermillref13_At.f
 refine Ends.bind (rcheck_ends l) ?_
 refine Ends.pos h (Ends.bind (rplace_ends l hl hf x h0 (by omega)) ?_)
 obtain ⟨j, p, o, hpl, hj, hp0, hp1, hu⟩ := place_some l 0 x h0 h1 (fun r hr => (hf r hr).1)
 rw [show ((0 : Nat) : Int) = 0 from rfl] at hpl
 rw [hpl]
 have hjl : j < l.length := by
  rcases Nat.lt_or_ge j l.length with h | h
  ·exact h
  ·rw [List.getElem?_eq_none h] at hj; cases hj
 have ho : rd_T44 l ((0 + j : Nat) : Int) = o := by
  rw [Nat.zero_add, rdR l j hjl]
  rw [List.getElem?_eq_getElem hjl] at hj
  exact Option.some.inj hj
 have hom : o ∈ l := List.mem_of_getElem? hj
 have hof := fit_of (hg o hom)
 unfold fitR at hof
 have himg : papermillref13_image.f o.f0 o.f1 o.f2 p = some (img o p) := image_is o p ⟨by omega, by omega, by omega⟩ (by omega) (by omega)
 refine Ends.neg (by dsimp only; omega) (Ends.pos (by dsimp only; omega) (Ends.pos (by dsimp only; omega) ?_))
 dsimp only
 rw [ho, himg]
 have h2 := (hu 0 (by omega) (by omega)).2
 rw [Int.add_zero, Int.add_zero] at h2
 have e : atOf13 l x = (img o p, 0) := by
  unfold atOf13
  rw [if_pos h, if_neg (by omega), ← h2]
  rfl
 rw [e]
 exact Ends.ret _
end Go.Proofs.Ytalpegglbfobiaa.G

namespace Go.Proofs.Ytalpegglbfobiaa.G
open Go.RowKit Go.Proofs.YtalpegglbfobiaaW.PrintWords Go.Proofs.YtalpegglbfobiaaW.PrintLast Go.Proofs.YtalpegglbfobiaaW.PrintMore
set_option linter.unusedVariables false
set_option linter.unusedSimpArgs false
theorem rLen2_ends (l : List S44) : Ends (fun k => papermillref13_Length.f k l) (if check13 l = 0 then (tot13 l, 0) else (0, check13 l)) := by
 unfold papermillref13_Length.f
 refine Ends.bind (rcheck_ends l) ?_
 by_cases h : check13 l = 0
 ·obtain ⟨hl, hg, _⟩ := check13_zero h
  rw [if_pos h]
  exact Ends.pos h (Ends.bind (rlength_ends l (by omega) (fun r hr => by have := fit_of (hg r hr); unfold fitR at this; omega)) (Ends.ret _))
 ·rw [if_neg h]
  exact Ends.neg h (Ends.ret _)
theorem rbackw_ends (m : List S44) : Ends (fun k => papermillref41_Backwards.f k m) (backwOf m) := by
 unfold papermillref41_Backwards.f
 refine Ends.bind (rcheck_ends m) ?_
 by_cases h : check13 m = 0
 ·have e : backwOf m = if m = [] then (false, 10) else (decide ((atOf13 m 0).1 > (atOf13 m (tot13 m - 1)).1), 0) := by unfold backwOf; rw [if_pos h]
  rw [e]
  refine Ends.pos h ?_
  by_cases h0 : m = []
  ·rw [if_pos h0]
   exact Ends.pos (by rw [h0]; rfl) (Ends.ret _)
  ·rw [if_neg h0]
   obtain ⟨hl, hg, ht⟩ := check13_zero h
   have ht1 : 1 ≤ tot13 m := by
    obtain ⟨r, q, rfl⟩ := List.exists_cons_of_ne_nil h0
    have h1 := fit_of (hg r (by simp))
    unfold fitR at h1
    have h2 : 0 ≤ tot13 q := by rw [← sem_len q (fun x hx => by have := fit_of (hg x (by simp [hx])); unfold fitR at this; omega)]; omega
    rw [tot13_cons]
    omega
   have hw : wrap64 (tot13 m - 1) = tot13 m - 1 := by unfold wrap64; omega
   refine Ends.neg (fun e => h0 (List.length_eq_zero_iff.1 (by omega))) (Ends.bind (rLen2_ends m) ?_)
   rw [if_pos h]
   dsimp only
   rw [hw]
   exact Ends.bind (rat_ends m h 0 (by omega) (by omega)) (Ends.bind (rat_ends m h (tot13 m - 1) (by omega) (by omega)) (Ends.ret _))
 ·have e : backwOf m = (false, check13 m) := by unfold backwOf; rw [if_neg h]
  rw [e]
  exact Ends.neg h (Ends.ret _)
end Go.Proofs.Ytalpegglbfobiaa.G
