import Derived.Test.YtjkakgkiikjdmaaQ1
import Derived.Test.YtjkakgkiikjdmaaQ3
import Derived.Test.YtjkakgkiikjdmaaQ4
namespace Go.Proofs.Ytjkakgkiikjdmaa.G
open Go.RowKit Go.Proofs.YtjkakgkiikjdmaaW.PrintWords Go.Proofs.YtjkakgkiikjdmaaW.PrintLast Go.Proofs.YtjkakgkiikjdmaaW.PrintMore
attribute [local go_sem] max2_int min2_int max_two min_two max_three min_three max_four min_four   -- for this text's walks alone
set_option linter.unusedVariables false
set_option linter.unusedSimpArgs false

def papermillref13_length.l0 : Nat → List (S56) → Int → Int → Option (Int)
 | 0, _, _, _ => none
 | k + 1, x0, x3, x4 => if x4 < (x0.length : Int) then (if 0 ≤ x4 then (papermillref13_length.l0 k x0 (wrap64 (x3 + ((rd_T56 x0 x4).f1))) (wrap64 (x4 + 1))) else (none)) else (some x3)
def papermillref13_length.f (k : Nat) (l0 : List (S56)) : Option (Int) := papermillref13_length.l0 k l0 0 0
theorem papermillref13_length.mono_l : ∀ k, (∀ y0 y1 y2, LeO (papermillref13_length.l0 k y0 y1 y2) (papermillref13_length.l0 (k + 1) y0 y1 y2))
 | 0 => fun _ _ _ r h => by simp [papermillref13_length.l0] at h
 | k + 1 => by
  have ih0 := papermillref13_length.mono_l k
  ·intro y0 y1 y2
   unfold papermillref13_length.l0
   repeat' first
   | (with_reducible exact ih0 _ _ _)
   | (with_reducible exact LeO.refl _)
   | (with_reducible exact LeO.none _)
   | (with_reducible refine LeO.ite ?_ ?_)
   | (with_reducible refine LeO.bind ?_ (fun _ => ?_))
   | exact ih0 _ _ _
   | exact LeO.none _
   | refine LeO.ite ?_ ?_
   | refine LeO.bind ?_ (fun _ => ?_)
theorem papermillref13_length.mono : ∀ a0 k, LeO (papermillref13_length.f k a0) (papermillref13_length.f (k + 1) a0) := by
 intro a0 k
 have ih0 := papermillref13_length.mono_l k
 unfold papermillref13_length.f
 repeat' first
   | (with_reducible exact ih0 _ _ _)
   | (with_reducible exact LeO.refl _)
   | (with_reducible exact LeO.none _)
   | (with_reducible refine LeO.ite ?_ ?_)
   | (with_reducible refine LeO.bind ?_ (fun _ => ?_))
   | exact ih0 _ _ _
   | exact LeO.none _
   | refine LeO.ite ?_ ?_
   | refine LeO.bind ?_ (fun _ => ?_)
set_option maxHeartbeats 8000000 in
set_option maxRecDepth 100000 in
theorem papermillref13_length.calls (k : Nat) (A0 : Option Addr) (c0 : Nat) (l0 : List (S56)) (r : Int) (w : World) (hr0 : Kd.C k56 w A0 l0.length l0) (hc0 : l0.length ≤ c0) (h : papermillref13_length.f k l0 = some r) :
  Calls Try.prog 63 #[.slice A0 l0.length c0] w fun e w' => e = .returned (.int .i64 r) ∧ Drawn0 w w' := by
 have HR0 := Aside0.mk hr0
 have HC0 := Aside0.mk hc0
 clear hr0 hc0
 have H : (papermillref13_length.l0 k l0 0 0) = some r := h
 clear h
 have H' := Aside0.mk H
 clear H
 go_enter Try.func63, Try.ntmps63
 go_wp2
 go_loopg [3, 4] k (fun kq v3 v4 w' => ∃ (x3_1 : Int) (x4_1 : Int), v3 = .int .i64 x3_1 ∧ v4 = .int .i64 x4_1 ∧ Aside0 (papermillref13_length.l0 kq l0 x3_1 x4_1 = some r) ∧ Aside0 (kq ≤ k) ∧ Drawn0 w w')
 case atStart => exact ⟨(0), (0), (by first | rfl | (simp; done) | (simp [*]; done)), (by first | rfl | (simp; done) | (simp [*]; done)), H', ⟨Nat.le_refl _⟩, by repeat (first | exact Drawn0.refl _ | apply Drawn0.step)⟩
 case round =>
  clear H'
  obtain ⟨x3_1, x4_1, rfl, rfl, HA, HK1, ⟨m1, rfl⟩⟩ := hrel
  cases gk with
  | zero => exact absurd HA.out (by simp [papermillref13_length.l0])
  | succ k1 =>
   have H := HA.out
   clear HA
   simp only [papermillref13_length.l0] at H
   by_cases c2 : x4_1 < (l0.length : Int)
   ·rw [if_pos c2] at H
    have c2b0 : decide (x4_1 < (l0.length : Int)) = true := decide_eq_true c2
    clear c2
    by_cases c3 : 0 ≤ x4_1
    ·rw [if_pos c3] at H
     have c3b0 : decide (0 ≤ x4_1) = true := decide_eq_true c3
     clear c3
     have H' := Aside0.mk H
     clear H
     have p64001 : 0 ≤ (x4_1 : Int) := of_decide_eq_true (by assumption)
     have q64001 : x4_1 < (l0.length : Int) := of_decide_eq_true (by assumption)
     obtain ⟨ad64001, e64001, hx64001_0, hx64001_1, hx64001_2⟩ := at_T56 HR0.out x4_1 p64001 q64001
     cases e64001
     replace p64001 := eq_true p64001
     replace q64001 := eq_true q64001
     go_wp2
     go_roundg k1
     case measure => have := HK1.out; omega
     case rel => exact ⟨(wrap64 (x3_1 + ((rd_T56 l0 x4_1).f1))), (wrap64 (x4_1 + 1)), (by first | rfl | (simp; done) | (simp [*]; done)), (by first | rfl | (simp; done) | (simp [*]; done)), H', ⟨by have := HK1.out; omega⟩, by repeat (first | exact Drawn0.refl _ | apply Drawn0.step)⟩
    ·rw [if_neg c3] at H
     exact absurd H (by simp)
   ·rw [if_neg c2] at H
    have c2b0 : decide (x4_1 < (l0.length : Int)) = false := decide_eq_false c2
    clear c2
    obtain rfl := Option.some.inj H
    go_wp2
    go_ret
    exact ⟨by first | rfl | (simp; done) | (simp [*]; done), by repeat (first | exact Drawn0.refl _ | apply Drawn0.step)⟩

end Go.Proofs.Ytjkakgkiikjdmaa.G

namespace Go.Proofs.Ytjkakgkiikjdmaa.G
open Go.RowKit Go.Proofs.YtjkakgkiikjdmaaW.PrintWords Go.Proofs.YtjkakgkiikjdmaaW.PrintLast Go.Proofs.YtjkakgkiikjdmaaW.PrintMore
attribute [local go_sem] max2_int min2_int max_two min_two max_three min_three max_four min_four   -- for this text's walks alone
set_option linter.unusedVariables false
set_option linter.unusedSimpArgs false

def papermillref13_good.j0 : Nat → Bool → Int → Int → Bool → Option (Bool)
 | 0, _, _, _, _ => none
 | k + 1, x20, x75002000, x75002001, x75002002 => if x20 = true then (some false) else (if x75002002 = true then (some (decide ((wrap64 ((wrap64 (x75002000 - x75002001)) + 1)) ≥ 0))) else (some (decide ((wrap64 (x75002000 + x75002001)) ≤ 17179869184))))
def papermillref13_good.f (k : Nat) (a0_0 : Int) (a0_1 : Int) (a0_2 : Bool) : Option (Bool) := if a0_1 < 1 then (papermillref13_good.j0 k true a0_0 a0_1 a0_2) else (if a0_1 > 17179869184 then (papermillref13_good.j0 k true a0_0 a0_1 a0_2) else (if a0_0 < 0 then (papermillref13_good.j0 k true a0_0 a0_1 a0_2) else (papermillref13_good.j0 k (decide (a0_0 ≥ 17179869184)) a0_0 a0_1 a0_2)))
theorem papermillref13_good.mono_l : ∀ k, (∀ y0 y1 y2 y3, LeO (papermillref13_good.j0 k y0 y1 y2 y3) (papermillref13_good.j0 (k + 1) y0 y1 y2 y3))
 | 0 => fun _ _ _ _ r h => by simp [papermillref13_good.j0] at h
 | k + 1 => by
  have ih0 := papermillref13_good.mono_l k
  ·intro y0 y1 y2 y3
   unfold papermillref13_good.j0
   repeat' first
   | (with_reducible exact ih0 _ _ _ _)
   | (with_reducible exact LeO.refl _)
   | (with_reducible exact LeO.none _)
   | (with_reducible refine LeO.ite ?_ ?_)
   | (with_reducible refine LeO.bind ?_ (fun _ => ?_))
   | exact ih0 _ _ _ _
   | exact LeO.none _
   | refine LeO.ite ?_ ?_
   | refine LeO.bind ?_ (fun _ => ?_)
theorem papermillref13_good.mono : ∀ a0 a1 a2 k, LeO (papermillref13_good.f k a0 a1 a2) (papermillref13_good.f (k + 1) a0 a1 a2) := by
 intro a0 a1 a2 k
 have ih0 := papermillref13_good.mono_l k
 unfold papermillref13_good.f
 repeat' first
   | (with_reducible exact ih0 _ _ _ _)
   | (with_reducible exact LeO.refl _)
   | (with_reducible exact LeO.none _)
   | (with_reducible refine LeO.ite ?_ ?_)
   | (with_reducible refine LeO.bind ?_ (fun _ => ?_))
   | exact ih0 _ _ _ _
   | exact LeO.none _
   | refine LeO.ite ?_ ?_
   | refine LeO.bind ?_ (fun _ => ?_)
set_option maxHeartbeats 8000000 in
set_option maxRecDepth 100000 in
theorem papermillref13_good.calls (k : Nat) (a0_0 : Int) (a0_1 : Int) (a0_2 : Bool) (r : Bool) (w : World) (h : papermillref13_good.f k a0_0 a0_1 a0_2 = some r) :
  Calls Try.prog 74 #[.agg #[.int .i64 a0_0, .int .i64 a0_1, .bool a0_2]] w fun e w' => e = .returned (.bool r) ∧ Below w.heap.size w w' := by
 have hu56 := Try.underlying56
 have HB := Aside0.mk (Below.refl w.heap.size w)
 have H : (if a0_1 < 1 then (papermillref13_good.j0 k true a0_0 a0_1 a0_2) else (if a0_1 > 17179869184 then (papermillref13_good.j0 k true a0_0 a0_1 a0_2) else (if a0_0 < 0 then (papermillref13_good.j0 k true a0_0 a0_1 a0_2) else (papermillref13_good.j0 k (decide (a0_0 ≥ 17179869184)) a0_0 a0_1 a0_2)))) = some r := h
 clear h
 have HC2 := Aside0.mk H
 clear H
 go_enter Try.func74, Try.ntmps74
 go_upto_region 1 with (first | ((with_reducible refine gate_dst (N := 1) rfl ?_); refine box_event ?hg (N := 1) ?hd (cs := #[.int .i64 a0_0, .int .i64 a0_1, .bool a0_2]) (t := 56) ?hr ?_; (case hd => rfl); (case hg => rfl); (case hr => first | (go_simp; done) | (go_simp; rfl)); intro gb75001 hg w3 hbox hb; have n0_ := Aside0.mk (below_step (by repeat (first | exact HB.out | apply below_alloc | apply pw_below_drewN | apply below_drew1)) hb); have n1_ := Aside0.mk (hbox); have n2_ := Aside0.mk ((by rw [hg]; exact (below_size (by repeat (first | exact HB.out | apply below_alloc | apply pw_below_drewN | apply below_drew1))) : w.heap.size ≤ gb75001)); have n3_ := Aside0.mk ((by rw [hg]; exact (below_size (by repeat (first | exact HB.out | apply below_alloc | apply pw_below_drewN | apply below_drew1))) : w.heap.size ≤ gb75001)); clear HB; have HB := n0_; have BK75001 := n1_; have GW75001 := n2_; have GE75001 := n3_; clear n0_ n1_ n2_ n3_; clear hb hbox hg))
 (try simp only [Act.put, List.setIfInBounds_toArray, List.set_cons_zero, List.set_cons_succ])
 go_cut [20] (fun v20 wc => ∃ (kq : Nat) (x20_1 : Bool), v20 = .bool x20_1 ∧ Aside0 (papermillref13_good.j0 kq x20_1 a0_0 a0_1 a0_2 = some r) ∧ Aside0 (kq ≤ k) ∧ Aside0 (wc.heap[gb75001]? = some (.cells #[.int .i64 a0_0, .int .i64 a0_1, .bool a0_2] 56 (0, 0))) ∧ Aside0 (Below w.heap.size w wc))
 case first =>
  have H := HC2.out
  clear HC2
  by_cases c4 : a0_1 < 1
  ·rw [if_pos c4] at H
   have c4b0 : decide (a0_1 < 1) = true := decide_eq_true c4
   clear c4
   (first | rw [c4b0] | (simp only [i64_w, i32_w]; rw [c4b0]) | skip)
   have H' := Aside0.mk H
   clear H
   have hcz5_0 : w3.cell? ⟨gb75001, 0, none⟩ = some (.int .i64 a0_0) := (blk_cell BK75001.out 0).trans rfl
   have hcz5_1 : w3.cell? ⟨gb75001, 1, none⟩ = some (.int .i64 a0_1) := (blk_cell BK75001.out 1).trans rfl
   have hcz5_2 : w3.cell? ⟨gb75001, 2, none⟩ = some (.bool a0_2) := (blk_cell BK75001.out 2).trans rfl
   have hfz5_0 := blk_frozen BK75001.out 0
   have hfz5_1 := blk_frozen BK75001.out 1
   have hfz5_2 := blk_frozen BK75001.out 2
   go_wp2
   go_meet
   case rel => exact ⟨_, (true), (by first | rfl | (simp; done) | (simp [*]; done)), H', ⟨by first | omega | exact Nat.le_refl _⟩, ⟨BK75001.out⟩, ⟨by repeat (first | exact HB.out | apply below_alloc | apply pw_below_drewN | apply below_drew1 | refine below_set ?_ GE75001.out)⟩⟩
  ·rw [if_neg c4] at H
   have c4b0 : decide (a0_1 < 1) = false := decide_eq_false c4
   clear c4
   (first | rw [c4b0] | (simp only [i64_w, i32_w]; rw [c4b0]) | skip)
   by_cases c6 : a0_1 > 17179869184
   ·rw [if_pos c6] at H
    have c6b0 : decide (17179869184 < a0_1) = true := decide_eq_true c6
    clear c6
    have H' := Aside0.mk H
    clear H
    have hcz7_0 : w3.cell? ⟨gb75001, 0, none⟩ = some (.int .i64 a0_0) := (blk_cell BK75001.out 0).trans rfl
    have hcz7_1 : w3.cell? ⟨gb75001, 1, none⟩ = some (.int .i64 a0_1) := (blk_cell BK75001.out 1).trans rfl
    have hcz7_2 : w3.cell? ⟨gb75001, 2, none⟩ = some (.bool a0_2) := (blk_cell BK75001.out 2).trans rfl
    have hfz7_0 := blk_frozen BK75001.out 0
    have hfz7_1 := blk_frozen BK75001.out 1
    have hfz7_2 := blk_frozen BK75001.out 2
    go_wp2
    go_meet
    case rel => exact ⟨_, (true), (by first | rfl | (simp; done) | (simp [*]; done)), H', ⟨by first | omega | exact Nat.le_refl _⟩, ⟨BK75001.out⟩, ⟨by repeat (first | exact HB.out | apply below_alloc | apply pw_below_drewN | apply below_drew1 | refine below_set ?_ GE75001.out)⟩⟩
   ·rw [if_neg c6] at H
    have c6b0 : decide (17179869184 < a0_1) = false := decide_eq_false c6
    clear c6
    by_cases c8 : a0_0 < 0
    ·rw [if_pos c8] at H
     have c8b0 : decide (a0_0 < 0) = true := decide_eq_true c8
     clear c8
     have H' := Aside0.mk H
     clear H
     have hcz9_0 : w3.cell? ⟨gb75001, 0, none⟩ = some (.int .i64 a0_0) := (blk_cell BK75001.out 0).trans rfl
     have hcz9_1 : w3.cell? ⟨gb75001, 1, none⟩ = some (.int .i64 a0_1) := (blk_cell BK75001.out 1).trans rfl
     have hcz9_2 : w3.cell? ⟨gb75001, 2, none⟩ = some (.bool a0_2) := (blk_cell BK75001.out 2).trans rfl
     have hfz9_0 := blk_frozen BK75001.out 0
     have hfz9_1 := blk_frozen BK75001.out 1
     have hfz9_2 := blk_frozen BK75001.out 2
     go_wp2
     go_meet
     case rel => exact ⟨_, (true), (by first | rfl | (simp; done) | (simp [*]; done)), H', ⟨by first | omega | exact Nat.le_refl _⟩, ⟨BK75001.out⟩, ⟨by repeat (first | exact HB.out | apply below_alloc | apply pw_below_drewN | apply below_drew1 | refine below_set ?_ GE75001.out)⟩⟩
    ·rw [if_neg c8] at H
     have c8b0 : decide (a0_0 < 0) = false := decide_eq_false c8
     clear c8
     have H' := Aside0.mk H
     clear H
     have hcz10_0 : w3.cell? ⟨gb75001, 0, none⟩ = some (.int .i64 a0_0) := (blk_cell BK75001.out 0).trans rfl
     have hcz10_1 : w3.cell? ⟨gb75001, 1, none⟩ = some (.int .i64 a0_1) := (blk_cell BK75001.out 1).trans rfl
     have hcz10_2 : w3.cell? ⟨gb75001, 2, none⟩ = some (.bool a0_2) := (blk_cell BK75001.out 2).trans rfl
     have hfz10_0 := blk_frozen BK75001.out 0
     have hfz10_1 := blk_frozen BK75001.out 1
     have hfz10_2 := blk_frozen BK75001.out 2
     go_wp2
     go_meet
     case rel => exact ⟨_, (decide (a0_0 ≥ 17179869184)), (by first | rfl | (simp; done) | (simp [*]; done)), H', ⟨by first | omega | exact Nat.le_refl _⟩, ⟨BK75001.out⟩, ⟨by repeat (first | exact HB.out | apply below_alloc | apply pw_below_drewN | apply below_drew1 | refine below_set ?_ GE75001.out)⟩⟩
 case rest =>
  clear HC2
  try clear p2
  try clear c4
  try clear c4b0
  try clear c6
  try clear c6b0
  try clear c7
  try clear c8
  try clear c8b0
  try clear hcz10_0
  try clear hcz10_1
  try clear hcz10_2
  try clear hcz5_0
  try clear hcz5_1
  try clear hcz5_2
  try clear hcz7_0
  try clear hcz7_1
  try clear hcz7_2
  try clear hcz9_0
  try clear hcz9_1
  try clear hcz9_2
  try clear hfz10_0
  try clear hfz10_1
  try clear hfz10_2
  try clear hfz5_0
  try clear hfz5_1
  try clear hfz5_2
  try clear hfz7_0
  try clear hfz7_1
  try clear hfz7_2
  try clear hfz9_0
  try clear hfz9_1
  try clear hfz9_2
  obtain ⟨kq, x20_1, rfl, HA, HJ1, BK75001, HB⟩ := hcut
  cases kq with
  | zero => exact absurd HA.out (by simp [papermillref13_good.j0])
  | succ kj1 =>
   have H := HA.out
   clear HA
   simp only [papermillref13_good.j0] at H
   by_cases c11 : x20_1 = true
   ·subst c11
    have H1 : (some false) = some r := by rw [if_pos rfl] at H; exact H
    clear H
    have H := H1
    clear H1
    obtain rfl := Option.some.inj H
    go_wp2
    go_ret
    exact ⟨by first | rfl | (simp [errW_none, errW_some] <;> rfl) | (simp [*, errW_none, errW_some] <;> rfl), by repeat (first | exact HB.out | apply below_alloc | apply pw_below_drewN | apply below_drew1 | refine below_set ?_ GE75001.out)⟩
   ·replace c11 := Bool.eq_false_iff.mpr c11
    subst c11
    have H1 : (if a0_2 = true then (some (decide ((wrap64 ((wrap64 (a0_0 - a0_1)) + 1)) ≥ 0))) else (some (decide ((wrap64 (a0_0 + a0_1)) ≤ 17179869184)))) = some r := by rw [if_neg (show ¬ (false = true) by decide)] at H; first | exact H | simpa using H
    clear H
    have H := H1
    clear H1
    by_cases c12 : a0_2 = true
    ·subst c12
     have H1 : (some (decide ((wrap64 ((wrap64 (a0_0 - a0_1)) + 1)) ≥ 0))) = some r := by rw [if_pos rfl] at H; exact H
     clear H
     have H := H1
     clear H1
     obtain rfl := Option.some.inj H
     have hcz13_0 : wc.cell? ⟨gb75001, 0, none⟩ = some (.int .i64 a0_0) := (blk_cell BK75001.out 0).trans rfl
     have hcz13_1 : wc.cell? ⟨gb75001, 1, none⟩ = some (.int .i64 a0_1) := (blk_cell BK75001.out 1).trans rfl
     have hcz13_2 : wc.cell? ⟨gb75001, 2, none⟩ = some (.bool true) := (blk_cell BK75001.out 2).trans rfl
     have hfz13_0 := blk_frozen BK75001.out 0
     have hfz13_1 := blk_frozen BK75001.out 1
     have hfz13_2 := blk_frozen BK75001.out 2
     go_wp2
     go_ret
     exact ⟨by first | rfl | (simp [errW_none, errW_some] <;> rfl) | (simp [*, errW_none, errW_some] <;> rfl), by repeat (first | exact HB.out | apply below_alloc | apply pw_below_drewN | apply below_drew1 | refine below_set ?_ GE75001.out)⟩
    ·replace c12 := Bool.eq_false_iff.mpr c12
     subst c12
     have H1 : (some (decide ((wrap64 (a0_0 + a0_1)) ≤ 17179869184))) = some r := by rw [if_neg (show ¬ (false = true) by decide)] at H; first | exact H | simpa using H
     clear H
     have H := H1
     clear H1
     obtain rfl := Option.some.inj H
     have hcz14_0 : wc.cell? ⟨gb75001, 0, none⟩ = some (.int .i64 a0_0) := (blk_cell BK75001.out 0).trans rfl
     have hcz14_1 : wc.cell? ⟨gb75001, 1, none⟩ = some (.int .i64 a0_1) := (blk_cell BK75001.out 1).trans rfl
     have hcz14_2 : wc.cell? ⟨gb75001, 2, none⟩ = some (.bool false) := (blk_cell BK75001.out 2).trans rfl
     have hfz14_0 := blk_frozen BK75001.out 0
     have hfz14_1 := blk_frozen BK75001.out 1
     have hfz14_2 := blk_frozen BK75001.out 2
     go_wp2
     go_ret
     exact ⟨by first | rfl | (simp [errW_none, errW_some] <;> rfl) | (simp [*, errW_none, errW_some] <;> rfl), by repeat (first | exact HB.out | apply below_alloc | apply pw_below_drewN | apply below_drew1 | refine below_set ?_ GE75001.out)⟩

end Go.Proofs.Ytjkakgkiikjdmaa.G

namespace Go.Proofs.Ytjkakgkiikjdmaa.G
open Go.RowKit Go.Proofs.YtjkakgkiikjdmaaW.PrintWords Go.Proofs.YtjkakgkiikjdmaaW.PrintLast Go.Proofs.YtjkakgkiikjdmaaW.PrintMore
attribute [local go_sem] max2_int min2_int max_two min_two max_three min_three max_four min_four   -- for this text's walks alone
set_option linter.unusedVariables false
set_option linter.unusedSimpArgs false

def papermillref13_Check.l0 : Nat → List (S56) → Int → Option (Int)
 | 0, _, _ => none
 | k + 1, x0, x3 => if x3 < (x0.length : Int) then (if 0 ≤ x3 then ((papermillref13_good.f k ((rd_T56 x0 x3).f0) ((rd_T56 x0 x3).f1) ((rd_T56 x0 x3).f2)).bind fun t61002 => (if t61002 = true then (papermillref13_Check.l0 k x0 (wrap64 (x3 + 1))) else (some 1))) else (none)) else ((papermillref13_length.f k x0).bind fun t61003 => (if t61003 > 17179869184 then (some 21) else (some 0)))
def papermillref13_Check.f (k : Nat) (l0 : List (S56)) : Option (Int) := if (l0.length : Int) > 256 then (some 8) else (papermillref13_Check.l0 k l0 0)
theorem papermillref13_Check.mono_l : ∀ k, (∀ y0 y1, LeO (papermillref13_Check.l0 k y0 y1) (papermillref13_Check.l0 (k + 1) y0 y1))
 | 0 => fun _ _ r h => by simp [papermillref13_Check.l0] at h
 | k + 1 => by
  have ih0 := papermillref13_Check.mono_l k
  ·intro y0 y1
   unfold papermillref13_Check.l0
   repeat' first
   | (with_reducible exact ih0 _ _)
   | (with_reducible exact papermillref13_good.mono _ _ _ _)
   | (with_reducible exact papermillref13_length.mono _ _)
   | (with_reducible exact LeO.refl _)
   | (with_reducible exact LeO.none _)
   | (with_reducible refine LeO.ite ?_ ?_)
   | (with_reducible refine LeO.bind ?_ (fun _ => ?_))
   | exact ih0 _ _
   | exact papermillref13_good.mono _ _ _ _
   | exact papermillref13_length.mono _ _
   | exact LeO.none _
   | refine LeO.ite ?_ ?_
   | refine LeO.bind ?_ (fun _ => ?_)
theorem papermillref13_Check.mono : ∀ a0 k, LeO (papermillref13_Check.f k a0) (papermillref13_Check.f (k + 1) a0) := by
 intro a0 k
 have ih0 := papermillref13_Check.mono_l k
 unfold papermillref13_Check.f
 repeat' first
   | (with_reducible exact ih0 _ _)
   | (with_reducible exact papermillref13_good.mono _ _ _ _)
   | (with_reducible exact papermillref13_length.mono _ _)
   | (with_reducible exact LeO.refl _)
   | (with_reducible exact LeO.none _)
   | (with_reducible refine LeO.ite ?_ ?_)
   | (with_reducible refine LeO.bind ?_ (fun _ => ?_))
   | exact ih0 _ _
   | exact papermillref13_good.mono _ _ _ _
   | exact papermillref13_length.mono _ _
   | exact LeO.none _
   | refine LeO.ite ?_ ?_
   | refine LeO.bind ?_ (fun _ => ?_)
set_option maxHeartbeats 8000000 in
set_option maxRecDepth 100000 in
theorem papermillref13_Check.calls (k : Nat) (A0 : Option Addr) (c0 : Nat) (l0 : List (S56)) (r : Int) (w : World) (hr0 : Kd.C k56 w A0 l0.length l0) (hc0 : l0.length ≤ c0) (h : papermillref13_Check.f k l0 = some r) :
  Calls Try.prog 60 #[.slice A0 l0.length c0] w fun e w' => e = .returned (.int .i64 r) ∧ Below w.heap.size w w' := by
 have hu56 := Try.underlying56
 have HR0 := Aside0.mk hr0
 have HC0 := Aside0.mk hc0
 clear hr0 hc0
 have HB := Aside0.mk (Below.refl w.heap.size w)
 have H : (if (l0.length : Int) > 256 then (some 8) else (papermillref13_Check.l0 k l0 0)) = some r := h
 clear h
 by_cases c2 : (l0.length : Int) > 256
 ·rw [if_pos c2] at H
  have c2b0 : decide (256 < (l0.length : Int)) = true := decide_eq_true c2
  have c2b1 : decide (256 < l0.length) = true := decide_eq_true (by omega)
  clear c2
  obtain rfl := Option.some.inj H
  go_enter Try.func60, Try.ntmps60
  go_wp2
  go_ret
  exact ⟨by first | rfl | (simp [errW_none, errW_some] <;> rfl) | (simp [*, errW_none, errW_some] <;> rfl), by repeat (first | exact HB.out | apply below_alloc | apply pw_below_drewN | apply below_drew1)⟩
 ·rw [if_neg c2] at H
  have c2b0 : decide (256 < (l0.length : Int)) = false := decide_eq_false c2
  have c2b1 : decide (256 < l0.length) = false := decide_eq_false (by omega)
  clear c2
  have H' := Aside0.mk H
  clear H
  go_enter Try.func60, Try.ntmps60
  go_wp2
  go_loopg [3] k (fun kq v3 w' => ∃ (x3_1 : Int), v3 = .int .i64 x3_1 ∧ Aside0 (papermillref13_Check.l0 kq l0 x3_1 = some r) ∧ Aside0 (kq ≤ k) ∧ Aside0 (Below w.heap.size w w'))
  case atStart => exact ⟨(0), (by first | rfl | (simp; done) | (simp [*]; done)), H', ⟨Nat.le_refl _⟩, ⟨by repeat (first | exact HB.out | apply below_alloc | apply pw_below_drewN | apply below_drew1)⟩⟩
  case round =>
   clear H'
   try clear c2
   try clear c2b0
   try clear c2b1
   try clear p2
   obtain ⟨x3_1, rfl, HA, HK1, HB⟩ := hrel
   cases gk with
   | zero => exact absurd HA.out (by simp [papermillref13_Check.l0])
   | succ k1 =>
    have H := HA.out
    clear HA
    simp only [papermillref13_Check.l0] at H
    by_cases c3 : x3_1 < (l0.length : Int)
    ·rw [if_pos c3] at H
     have c3b0 : decide (x3_1 < (l0.length : Int)) = true := decide_eq_true c3
     clear c3
     by_cases c4 : 0 ≤ x3_1
     ·rw [if_pos c4] at H
      have c4b0 : decide (0 ≤ x3_1) = true := decide_eq_true c4
      clear c4
      replace H := Option.bind_eq_some_iff.mp H
      obtain ⟨t61002, A50, H⟩ := H
      replace H : (if t61002 = true then (papermillref13_Check.l0 k1 l0 (wrap64 (x3_1 + 1))) else (some 1)) = some r := H
      have A5 := Aside0.mk A50
      clear A50
      by_cases c6 : t61002 = true
      ·subst c6
       have H1 : (papermillref13_Check.l0 k1 l0 (wrap64 (x3_1 + 1))) = some r := by rw [if_pos rfl] at H; exact H
       clear H
       have H := H1
       clear H1
       have H' := Aside0.mk H
       clear H
       have p61001 : 0 ≤ (x3_1 : Int) := of_decide_eq_true (by assumption)
       have q61001 : x3_1 < (l0.length : Int) := of_decide_eq_true (by assumption)
       obtain ⟨ad61001, e61001, hx61001_0, hx61001_1, hx61001_2⟩ := at_T56 HR0.out x3_1 p61001 q61001
       cases e61001
       replace hx61001_0 := (HB.out.cell (World.block_lt_of_cell? w _ hx61001_0)).trans hx61001_0
       replace hx61001_1 := (HB.out.cell (World.block_lt_of_cell? w _ hx61001_1)).trans hx61001_1
       replace hx61001_2 := (HB.out.cell (World.block_lt_of_cell? w _ hx61001_2)).trans hx61001_2
       replace p61001 := eq_true p61001
       replace q61001 := eq_true q61001
       go_wp2_with (first | ((with_reducible refine gate_callee (f := 74) rfl ?_); refine goesL_ (some 17) rfl rfl Try.func74 (by kernel_rfl) rfl #[.agg #[.int .i64 ((rd_T56 l0 x3_1).f0), .int .i64 ((rd_T56 l0 x3_1).f1), .bool ((rd_T56 l0 x3_1).f2)]] rfl (by (try simp only [List.map_toArray, List.map_cons, List.map_nil]); first | done | rfl | (simp only [List.length_drop, List.length_take]; rfl)) ?_; (with_reducible refine (papermillref13_good.calls k1 ((rd_T56 l0 x3_1).f0) ((rd_T56 l0 x3_1).f1) ((rd_T56 l0 x3_1).f2) true _ A5.out).mono ?_); rintro e w7 ⟨rfl, hb⟩; refine ⟨_, rfl, ?_⟩; have n0_ := Aside0.mk (below_step (by repeat (first | exact HB.out | apply below_alloc | apply pw_below_drewN | apply below_drew1)) hb); clear HB; have HB := n0_; clear n0_; (try clear hb); (try clear hb2); (try clear hk); (try clear hi)))
       go_roundg k1
       case measure => have := HK1.out; omega
       case rel => exact ⟨(wrap64 (x3_1 + 1)), (by first | rfl | (simp; done) | (simp [*]; done)), H', ⟨by have := HK1.out; omega⟩, ⟨by repeat (first | exact HB.out | apply below_alloc | apply pw_below_drewN | apply below_drew1)⟩⟩
      ·replace c6 := Bool.eq_false_iff.mpr c6
       subst c6
       have H1 : (some 1) = some r := by rw [if_neg (show ¬ (false = true) by decide)] at H; first | exact H | simpa using H
       clear H
       have H := H1
       clear H1
       obtain rfl := Option.some.inj H
       have p61001 : 0 ≤ (x3_1 : Int) := of_decide_eq_true (by assumption)
       have q61001 : x3_1 < (l0.length : Int) := of_decide_eq_true (by assumption)
       obtain ⟨ad61001, e61001, hx61001_0, hx61001_1, hx61001_2⟩ := at_T56 HR0.out x3_1 p61001 q61001
       cases e61001
       replace hx61001_0 := (HB.out.cell (World.block_lt_of_cell? w _ hx61001_0)).trans hx61001_0
       replace hx61001_1 := (HB.out.cell (World.block_lt_of_cell? w _ hx61001_1)).trans hx61001_1
       replace hx61001_2 := (HB.out.cell (World.block_lt_of_cell? w _ hx61001_2)).trans hx61001_2
       replace p61001 := eq_true p61001
       replace q61001 := eq_true q61001
       go_wp2_with (first | ((with_reducible refine gate_callee (f := 74) rfl ?_); refine goesL_ (some 17) rfl rfl Try.func74 (by kernel_rfl) rfl #[.agg #[.int .i64 ((rd_T56 l0 x3_1).f0), .int .i64 ((rd_T56 l0 x3_1).f1), .bool ((rd_T56 l0 x3_1).f2)]] rfl (by (try simp only [List.map_toArray, List.map_cons, List.map_nil]); first | done | rfl | (simp only [List.length_drop, List.length_take]; rfl)) ?_; (with_reducible refine (papermillref13_good.calls k1 ((rd_T56 l0 x3_1).f0) ((rd_T56 l0 x3_1).f1) ((rd_T56 l0 x3_1).f2) false _ A5.out).mono ?_); rintro e w8 ⟨rfl, hb⟩; refine ⟨_, rfl, ?_⟩; have n0_ := Aside0.mk (below_step (by repeat (first | exact HB.out | apply below_alloc | apply pw_below_drewN | apply below_drew1)) hb); clear HB; have HB := n0_; clear n0_; (try clear hb); (try clear hb2); (try clear hk); (try clear hi)))
       go_ret
       exact ⟨by first | rfl | (simp [errW_none, errW_some] <;> rfl) | (simp [*, errW_none, errW_some] <;> rfl), by repeat (first | exact HB.out | apply below_alloc | apply pw_below_drewN | apply below_drew1)⟩
     ·rw [if_neg c4] at H
      exact absurd H (by simp)
    ·rw [if_neg c3] at H
     have c3b0 : decide (x3_1 < (l0.length : Int)) = false := decide_eq_false c3
     clear c3
     replace H := Option.bind_eq_some_iff.mp H
     obtain ⟨t61003, A90, H⟩ := H
     replace H : (if t61003 > 17179869184 then (some 21) else (some 0)) = some r := H
     have A9 := Aside0.mk A90
     clear A90
     by_cases c10 : t61003 > 17179869184
     ·rw [if_pos c10] at H
      have c10b0 : decide (17179869184 < t61003) = true := decide_eq_true c10
      clear c10
      obtain rfl := Option.some.inj H
      go_wp2_with (first | ((with_reducible refine gate_callee (f := 63) rfl ?_); refine goesL_ (some 20) rfl rfl Try.func63 (by kernel_rfl) rfl #[.slice A0 l0.length c0] rfl (by (try simp only [List.map_toArray, List.map_cons, List.map_nil]); first | done | rfl | (simp only [List.length_drop, List.length_take]; rfl)) ?_; (with_reducible refine (papermillref13_length.calls k1 _ _ l0 t61003 _ ?side1 ?side2 A9.out).mono ?_); (case side1 => exact (Kd.C_below HR0.out HB.out)); (case side2 => exact HC0.out); rintro e w' ⟨rfl, ⟨nd, rfl⟩⟩; refine ⟨_, rfl, ?_⟩))
      go_ret
      exact ⟨by first | rfl | (simp [errW_none, errW_some] <;> rfl) | (simp [*, errW_none, errW_some] <;> rfl), by repeat (first | exact HB.out | apply below_alloc | apply pw_below_drewN | apply below_drew1)⟩
     ·rw [if_neg c10] at H
      have c10b0 : decide (17179869184 < t61003) = false := decide_eq_false c10
      clear c10
      obtain rfl := Option.some.inj H
      go_wp2_with (first | ((with_reducible refine gate_callee (f := 63) rfl ?_); refine goesL_ (some 20) rfl rfl Try.func63 (by kernel_rfl) rfl #[.slice A0 l0.length c0] rfl (by (try simp only [List.map_toArray, List.map_cons, List.map_nil]); first | done | rfl | (simp only [List.length_drop, List.length_take]; rfl)) ?_; (with_reducible refine (papermillref13_length.calls k1 _ _ l0 t61003 _ ?side1 ?side2 A9.out).mono ?_); (case side1 => exact (Kd.C_below HR0.out HB.out)); (case side2 => exact HC0.out); rintro e w' ⟨rfl, ⟨nd, rfl⟩⟩; refine ⟨_, rfl, ?_⟩))
      go_ret
      exact ⟨by first | rfl | (simp [errW_none, errW_some] <;> rfl) | (simp [*, errW_none, errW_some] <;> rfl), by repeat (first | exact HB.out | apply below_alloc | apply pw_below_drewN | apply below_drew1)⟩

end Go.Proofs.Ytjkakgkiikjdmaa.G

namespace Go.Proofs.Ytjkakgkiikjdmaa.G
open Go.RowKit Go.Proofs.YtjkakgkiikjdmaaW.PrintWords Go.Proofs.YtjkakgkiikjdmaaW.PrintLast Go.Proofs.YtjkakgkiikjdmaaW.PrintMore
attribute [local go_sem] max2_int min2_int max_two min_two max_three min_three max_four min_four   -- for this text's walks alone
set_option linter.unusedVariables false
set_option linter.unusedSimpArgs false

def papermillref13_image.f (a0_0 : Int) (a0_1 : Int) (a0_2 : Bool) (a1 : Int) : Option (Int) := if a0_2 = true then (some (wrap64 (a0_0 - a1))) else (some (wrap64 (a0_0 + a1)))
set_option maxHeartbeats 8000000 in
set_option maxRecDepth 100000 in
theorem papermillref13_image.calls (a0_0 : Int) (a0_1 : Int) (a0_2 : Bool) (a1 : Int) (r : Int) (w : World) (h : papermillref13_image.f a0_0 a0_1 a0_2 a1 = some r) :
  Calls Try.prog 83 #[.agg #[.int .i64 a0_0, .int .i64 a0_1, .bool a0_2], .int .i64 a1] w fun e w' => e = .returned (.int .i64 r) ∧ Below w.heap.size w w' := by
 have hu56 := Try.underlying56
 have HB := Aside0.mk (Below.refl w.heap.size w)
 have H : (if a0_2 = true then (some (wrap64 (a0_0 - a1))) else (some (wrap64 (a0_0 + a1)))) = some r := h
 clear h
 by_cases c3 : a0_2 = true
 ·subst c3
  have H1 : (some (wrap64 (a0_0 - a1))) = some r := by rw [if_pos rfl] at H; exact H
  clear H
  have H := H1
  clear H1
  obtain rfl := Option.some.inj H
  go_enter Try.func83, Try.ntmps83
  go_wp2_with (first | ((with_reducible refine gate_dst (N := 2) rfl ?_); refine box_event ?hg (N := 2) ?hd (cs := #[.int .i64 a0_0, .int .i64 a0_1, .bool true]) (t := 56) ?hr ?_; (case hd => rfl); (case hg => rfl); (case hr => first | (go_simp; done) | (go_simp; rfl)); intro gb84001 hg w4 hbox hb; have n0_ := Aside0.mk (below_step (by repeat (first | exact HB.out | apply below_alloc | apply pw_below_drewN | apply below_drew1)) hb); have n1_ := Aside0.mk (hbox); have n2_ := Aside0.mk ((by rw [hg]; exact (below_size (by repeat (first | exact HB.out | apply below_alloc | apply pw_below_drewN | apply below_drew1))) : w.heap.size ≤ gb84001)); have n3_ := Aside0.mk ((by rw [hg]; exact (below_size (by repeat (first | exact HB.out | apply below_alloc | apply pw_below_drewN | apply below_drew1))) : w.heap.size ≤ gb84001)); clear HB; have HB := n0_; have BK84001 := n1_; have GW84001 := n2_; have GE84001 := n3_; clear n0_ n1_ n2_ n3_; clear hb hbox hg; have hcz5_0 : w4.cell? ⟨gb84001, 0, none⟩ = some (.int .i64 a0_0) := (blk_cell BK84001.out 0).trans rfl; have hcz5_1 : w4.cell? ⟨gb84001, 1, none⟩ = some (.int .i64 a0_1) := (blk_cell BK84001.out 1).trans rfl; have hcz5_2 : w4.cell? ⟨gb84001, 2, none⟩ = some (.bool true) := (blk_cell BK84001.out 2).trans rfl; have hfz5_0 := blk_frozen BK84001.out 0; have hfz5_1 := blk_frozen BK84001.out 1; have hfz5_2 := blk_frozen BK84001.out 2))
  go_ret
  exact ⟨by first | rfl | (simp [errW_none, errW_some] <;> rfl) | (simp [*, errW_none, errW_some] <;> rfl), by repeat (first | exact HB.out | apply below_alloc | apply pw_below_drewN | apply below_drew1 | refine below_set ?_ GE84001.out)⟩
 ·replace c3 := Bool.eq_false_iff.mpr c3
  subst c3
  have H1 : (some (wrap64 (a0_0 + a1))) = some r := by rw [if_neg (show ¬ (false = true) by decide)] at H; first | exact H | simpa using H
  clear H
  have H := H1
  clear H1
  obtain rfl := Option.some.inj H
  go_enter Try.func83, Try.ntmps83
  go_wp2_with (first | ((with_reducible refine gate_dst (N := 2) rfl ?_); refine box_event ?hg (N := 2) ?hd (cs := #[.int .i64 a0_0, .int .i64 a0_1, .bool false]) (t := 56) ?hr ?_; (case hd => rfl); (case hg => rfl); (case hr => first | (go_simp; done) | (go_simp; rfl)); intro gb84001 hg w6 hbox hb; have n0_ := Aside0.mk (below_step (by repeat (first | exact HB.out | apply below_alloc | apply pw_below_drewN | apply below_drew1)) hb); have n1_ := Aside0.mk (hbox); have n2_ := Aside0.mk ((by rw [hg]; exact (below_size (by repeat (first | exact HB.out | apply below_alloc | apply pw_below_drewN | apply below_drew1))) : w.heap.size ≤ gb84001)); have n3_ := Aside0.mk ((by rw [hg]; exact (below_size (by repeat (first | exact HB.out | apply below_alloc | apply pw_below_drewN | apply below_drew1))) : w.heap.size ≤ gb84001)); clear HB; have HB := n0_; have BK84001 := n1_; have GW84001 := n2_; have GE84001 := n3_; clear n0_ n1_ n2_ n3_; clear hb hbox hg; have hcz7_0 : w6.cell? ⟨gb84001, 0, none⟩ = some (.int .i64 a0_0) := (blk_cell BK84001.out 0).trans rfl; have hcz7_1 : w6.cell? ⟨gb84001, 1, none⟩ = some (.int .i64 a0_1) := (blk_cell BK84001.out 1).trans rfl; have hcz7_2 : w6.cell? ⟨gb84001, 2, none⟩ = some (.bool false) := (blk_cell BK84001.out 2).trans rfl; have hfz7_0 := blk_frozen BK84001.out 0; have hfz7_1 := blk_frozen BK84001.out 1; have hfz7_2 := blk_frozen BK84001.out 2))
  go_ret
  exact ⟨by first | rfl | (simp [errW_none, errW_some] <;> rfl) | (simp [*, errW_none, errW_some] <;> rfl), by repeat (first | exact HB.out | apply below_alloc | apply pw_below_drewN | apply below_drew1 | refine below_set ?_ GE84001.out)⟩

end Go.Proofs.Ytjkakgkiikjdmaa.G

namespace Go.Proofs.Ytjkakgkiikjdmaa.G
open Go.RowKit Go.Proofs.YtjkakgkiikjdmaaW.PrintWords Go.Proofs.YtjkakgkiikjdmaaW.PrintLast Go.Proofs.YtjkakgkiikjdmaaW.PrintMore
attribute [local go_sem] max2_int min2_int max_two min_two max_three min_three max_four min_four   -- for this text's walks alone
set_option linter.unusedVariables false
set_option linter.unusedSimpArgs false

def papermillref13_cut.f (a0_0 : Int) (a0_1 : Int) (a0_2 : Bool) (a1 : Int) (a2 : Int) : Option (Int × Int × Bool) := (papermillref13_image.f a0_0 a0_1 a0_2 a1).bind fun t83003 => (if a0_2 = true then (some (t83003, a2, decide (a2 > 1))) else (some (t83003, a2, false)))
def papermillref13_cut.T1 : Bool × List (List Nat × List Nat) := (true, [([], []), ([], []), ([0, 1], [0, 1]), ([], []), ([], []), ([4], [4]), ([5, 2], [5]), ([6], [6]), ([7, 6], [6, 7]), ([6, 8], [6, 8]), ([2, 3, 9], [2, 3, 9]), ([10, 6, 0, 1, 2, 3, 4, 5, 6, 7, 8, 9, 10], [10])])
def papermillref13_cut.B1 : List Nat := [0, 0, 3, 0, 0, 16, 55, 119, 247, 503, 1023, 2047]
theorem papermillref13_cut.tab1 : rtab .any (opsOf Try.f82 1) = papermillref13_cut.T1 := by kernel_rfl
theorem papermillref13_cut.bits1 : waitsOk papermillref13_cut.T1.2 papermillref13_cut.B1 = true := by kernel_rfl
set_option maxHeartbeats 8000000 in
set_option maxRecDepth 100000 in
theorem papermillref13_cut.calls (a0_0 : Int) (a0_1 : Int) (a0_2 : Bool) (a1 : Int) (a2 : Int) (r1 : Int) (r2 : Int) (r3 : Bool) (w : World) (h : papermillref13_cut.f a0_0 a0_1 a0_2 a1 a2 = some (r1, r2, r3)) :
  Calls Try.prog 82 #[.agg #[.int .i64 a0_0, .int .i64 a0_1, .bool a0_2], .int .i64 a1, .int .i64 a2] w fun e w' => e = .returned (.agg #[.int .i64 r1, .int .i64 r2, .bool r3]) ∧ Below w.heap.size w w' := by
 have hu56 := Try.underlying56
 have HB := Aside0.mk (Below.refl w.heap.size w)
 have H : ((papermillref13_image.f a0_0 a0_1 a0_2 a1).bind fun t83003 => (if a0_2 = true then (some (t83003, a2, decide (a2 > 1))) else (some (t83003, a2, false)))) = some (r1, r2, r3) := h
 clear h
 replace H := Option.bind_eq_some_iff.mp H
 obtain ⟨t83003, A40, H⟩ := H
 replace H : (if a0_2 = true then (some (t83003, a2, decide (a2 > 1))) else (some (t83003, a2, false))) = some (r1, r2, r3) := H
 have A4 := Aside0.mk A40
 clear A40
 by_cases c5 : a0_2 = true
 ·subst c5
  have H1 : (some (t83003, a2, decide (a2 > 1))) = some (r1, r2, r3) := by rw [if_pos rfl] at H; exact H
  clear H
  have H := H1
  clear H1
  simp only [Option.some.injEq, Prod.mk.injEq] at H
  obtain ⟨rfl, rfl, rfl⟩ := H
  go_enter Try.func82, Try.ntmps82
  try go_wp2_with (first | ((with_reducible refine gate_dst (N := 3) rfl ?_); refine box_event ?hg (N := 3) ?hd (cs := #[.int .i64 a0_0, .int .i64 a0_1, .bool true]) (t := 56) ?hr ?_; (case hd => rfl); (case hg => rfl); (case hr => first | (go_simp; done) | (go_simp; rfl)); intro gb83001 hg w6 hbox hb; have n0_ := Aside0.mk (below_step (by repeat (first | exact HB.out | apply below_alloc | apply pw_below_drewN | apply below_drew1)) hb); have n1_ := Aside0.mk (hbox); have n2_ := Aside0.mk ((by rw [hg]; exact (below_size (by repeat (first | exact HB.out | apply below_alloc | apply pw_below_drewN | apply below_drew1))) : w.heap.size ≤ gb83001)); have n3_ := Aside0.mk ((by rw [hg]; exact (below_size (by repeat (first | exact HB.out | apply below_alloc | apply pw_below_drewN | apply below_drew1))) : w.heap.size ≤ gb83001)); clear HB; have HB := n0_; have BK83001 := n1_; have GW83001 := n2_; have GE83001 := n3_; clear n0_ n1_ n2_ n3_; clear hb hbox hg) | ((with_reducible refine gate_dst (N := 6) rfl ?_); refine box_event ?hg (N := 6) ?hd (cs := #[.int .i64 0, .int .i64 0, .bool false]) (t := 56) ?hr ?_; (case hd => rfl); (case hg => rfl); (case hr => first | (go_simp; done) | (go_simp; rfl)); intro gb83002 hg w7 hbox hb; have n0_ := Aside0.mk (blk_below (g := gb83001) (o := .cells #[.int .i64 a0_0, .int .i64 a0_1, .bool true] 56 (0, 0)) (BK83001.out) hb); have n1_ := Aside0.mk (below_step (by repeat (first | exact HB.out | apply below_alloc | apply pw_below_drewN | apply below_drew1 | refine below_set ?_ GE83001.out)) hb); have n2_ := Aside0.mk (hbox); have n3_ := Aside0.mk ((by rw [hg]; exact (below_size (by repeat (first | exact HB.out | apply below_alloc | apply pw_below_drewN | apply below_drew1 | refine below_set ?_ GE83001.out))) : w.heap.size ≤ gb83002)); have n4_ := Aside0.mk ((by rw [hg]; exact (below_size (by repeat (first | exact HB.out | apply below_alloc | apply pw_below_drewN | apply below_drew1 | refine below_set ?_ GE83001.out))) : w.heap.size ≤ gb83002)); have n5_ := Aside0.mk ((by rw [hg]; exact Nat.ne_of_lt (blk_lt (g := gb83001) (o := .cells #[.int .i64 a0_0, .int .i64 a0_1, .bool true] 56 (0, 0)) (BK83001.out)) : gb83001 ≠ gb83002)); have n6_ := Aside0.mk ((by rw [hg]; exact Nat.ne_of_gt (blk_lt (g := gb83001) (o := .cells #[.int .i64 a0_0, .int .i64 a0_1, .bool true] 56 (0, 0)) (BK83001.out)) : gb83002 ≠ gb83001)); clear BK83001; clear HB; have BK83001 := n0_; have HB := n1_; have BK83002 := n2_; have GW83002 := n3_; have GE83002 := n4_; have NB83001_83002 := n5_; have NB83002_83001 := n6_; clear n0_ n1_ n2_ n3_ n4_ n5_ n6_; clear hb hbox hg))
  have n0_ := Aside0.mk (blk_drew BK83001.out)
  have n1_ := Aside0.mk (blk_drew BK83002.out)
  have n2_ := Aside0.mk (below_drew1 HB.out)
  clear BK83001
  clear BK83002
  clear HB
  have BK83001 := n0_
  have BK83002 := n1_
  have HB := n2_
  clear n0_ n1_ n2_
  refine start_ (n := 12) (S := fun w' => w'.cell? ⟨gb83001, 0, none⟩ = some (.int .i64 a0_0) ∧ w'.cell? ⟨gb83001, 1, none⟩ = some (.int .i64 a0_1) ∧ w'.cell? ⟨gb83001, 2, none⟩ = some (.bool true)) (ds := []) #[false, false, false, false, false, false, false, false, false, false, false, false] (by kernel_rfl) rfl rfl ⟨(blk_cell BK83001.out 0).trans rfl, (blk_cell BK83001.out 1).trans rfl, (blk_cell BK83001.out 2).trans rfl⟩ (fun hHeld => ?_); refine with_tabW papermillref13_cut.tab1 papermillref13_cut.bits1 (fun HT_ HW_ => ?_)
  generalize w7.drew = w8 at BK83001 BK83002 HB hHeld ⊢
  refine pure_ (i := 1) (N := some 8) (v := ?_) (a' := ?_) #[false, true, false, false, false, false, false, false, false, false, false, false] rfl rfl (any_of HT_.out (by kernel_rfl)) (fun _ _ _ h => h) (Or.inl ⟨by rfl, ?_⟩) ?_ ?_
  rotate_left
  ·intro w'
   go_simp
   with_reducible rfl
  rotate_left
  ·simp only [Act.put, List.setIfInBounds_toArray, List.set_cons_zero, List.set_cons_succ, i64_w, i32_w]
   rfl
  refine pure_ (i := 3) (N := some 10) (v := ?_) (a' := ?_) #[false, true, false, true, false, false, false, false, false, false, false, false] rfl rfl (any_of HT_.out (by kernel_rfl)) (fun _ _ _ h => h) (Or.inl ⟨by rfl, ?_⟩) ?_ ?_
  rotate_left
  ·intro w'
   go_simp
   with_reducible rfl
  rotate_left
  ·simp only [Act.put, List.setIfInBounds_toArray, List.set_cons_zero, List.set_cons_succ, i64_w, i32_w]
   rfl
  refine pure_ (i := 4) (N := some 11) (v := ?_) (a' := ?_) #[false, true, false, true, true, false, false, false, false, false, false, false] rfl rfl (any_of HT_.out (by kernel_rfl)) (fun _ _ _ h => h) (Or.inl ⟨by rfl, ?_⟩) ?_ ?_
  rotate_left
  ·intro w'
   go_simp
   with_reducible rfl
  rotate_left
  ·simp only [Act.put, List.setIfInBounds_toArray, List.set_cons_zero, List.set_cons_succ, i64_w, i32_w]
   rfl
  refine take_ (i := 0) (N := some 7) (v := ?_) (a' := ?_) #[true, true, false, true, true, false, false, false, false, false, false, false] rfl rfl (take_ofW HT_.out HW_.out (by kernel_rfl)) (fun _ _ _ h => h) (Or.inl ⟨by rfl, ?_⟩) hHeld ?_ ?_
  rotate_left
  ·rintro w' ⟨s0, s1, s2⟩
   go_simp
   with_reducible rfl
  rotate_left
  ·simp only [Act.put, List.setIfInBounds_toArray, List.set_cons_zero, List.set_cons_succ, i64_w, i32_w]
   rfl
  refine take_ (i := 5) (N := some 12) (v := ?_) (a' := ?_) #[true, true, false, true, true, true, false, false, false, false, false, false] rfl rfl (take_ofW HT_.out HW_.out (by kernel_rfl)) (fun _ _ _ h => h) (Or.inl ⟨by rfl, ?_⟩) hHeld ?_ ?_
  rotate_left
  ·rintro w' ⟨s0, s1, s2⟩
   go_simp
   with_reducible rfl
  rotate_left
  ·simp only [Act.put, List.setIfInBounds_toArray, List.set_cons_zero, List.set_cons_succ, i64_w, i32_w]
   rfl
  refine one_ (i := 2) (N := some 9) #[true, true, true, true, true, true, false, false, false, false, false, false] rfl rfl (one_of HT_.out (by kernel_rfl)) (by decide) (fun K hK => ?_)
  refine goes_ Try.func83 (by kernel_rfl) rfl #[.agg #[.int .i64 a0_0, .int .i64 a0_1, .bool true], .int .i64 a1] (by rfl) rfl rfl (by (try simp only [List.map_toArray, List.map_cons, List.map_nil]); first | done | rfl | (simp only [List.length_drop, List.length_take]; rfl)) ?_
  with_reducible refine (papermillref13_image.calls a0_0 a0_1 true a1 t83003 _ A4.out).mono ?_
  rintro e w9 ⟨rfl, hb⟩
  refine ⟨_, rfl, ?_⟩
  have n0_ := Aside0.mk (blk_below (g := gb83001) (o := .cells #[.int .i64 a0_0, .int .i64 a0_1, .bool true] 56 (0, 0)) (BK83001.out) hb)
  have n1_ := Aside0.mk (blk_below (g := gb83002) (o := .cells #[.int .i64 0, .int .i64 0, .bool false] 56 (0, 0)) (BK83002.out) hb)
  have n2_ := Aside0.mk (below_step (by repeat (first | exact HB.out | apply below_alloc | apply pw_below_drewN | apply below_drew1 | refine below_set ?_ GE83001.out | refine below_set ?_ GE83002.out)) hb)
  clear BK83001
  clear BK83002
  clear HB
  have BK83001 := n0_
  have BK83002 := n1_
  have HB := n2_
  clear n0_ n1_ n2_
  (try clear hb)
  (try clear hb2)
  (try clear hk)
  (try clear hi)
  refine hK.out _ _ ⟨(blk_cell BK83001.out 0).trans rfl, (blk_cell BK83001.out 1).trans rfl, (blk_cell BK83001.out 2).trans rfl⟩ (fun hHeld => ?_)
  clear hK K
  refine norm_ (a' := ?_) ?_ ?_
  rotate_left
  ·show Act.put _ (some 9) _ = _
   simp only [Act.put, List.setIfInBounds_toArray, List.set_cons_zero, List.set_cons_succ, i64_w, i32_w]
   rfl
  refine pure_ (i := 6) (N := some 13) (v := ?_) (a' := ?_) #[true, true, true, true, true, true, true, false, false, false, false, false] rfl rfl (any_of HT_.out (by kernel_rfl)) (fun _ _ _ h => h) (Or.inl ⟨by rfl, ?_⟩) ?_ ?_
  rotate_left
  ·intro w'
   go_simp
   with_reducible rfl
  rotate_left
  ·simp only [Act.put, List.setIfInBounds_toArray, List.set_cons_zero, List.set_cons_succ, i64_w, i32_w]
   rfl
  refine pure_ (i := 7) (N := some 14) (v := ?_) (a' := ?_) #[true, true, true, true, true, true, true, true, false, false, false, false] rfl rfl (any_of HT_.out (by kernel_rfl)) (fun _ _ _ h => h) (Or.inl ⟨by rfl, ?_⟩) ?_ ?_
  rotate_left
  ·intro w'
   go_simp
   with_reducible rfl
  rotate_left
  ·simp only [Act.put, List.setIfInBounds_toArray, List.set_cons_zero, List.set_cons_succ, i64_w, i32_w]
   rfl
  refine pure_ (i := 8) (N := some 15) (v := ?_) (a' := ?_) #[true, true, true, true, true, true, true, true, true, false, false, false] rfl rfl (any_of HT_.out (by kernel_rfl)) (fun _ _ _ h => h) (Or.inl ⟨by rfl, ?_⟩) ?_ ?_
  rotate_left
  ·intro w'
   go_simp
   with_reducible rfl
  rotate_left
  ·simp only [Act.put, List.setIfInBounds_toArray, List.set_cons_zero, List.set_cons_succ, i64_w, i32_w]
   rfl
  refine pure_ (i := 9) (N := some 16) (v := ?_) (a' := ?_) #[true, true, true, true, true, true, true, true, true, true, false, false] rfl rfl (any_of HT_.out (by kernel_rfl)) (fun _ _ _ h => h) (Or.inl ⟨by rfl, ?_⟩) ?_ ?_
  rotate_left
  ·intro w'
   go_simp
   with_reducible rfl
  rotate_left
  ·simp only [Act.put, List.setIfInBounds_toArray, List.set_cons_zero, List.set_cons_succ, i64_w, i32_w]
   rfl
  refine pure_ (i := 10) (N := some 17) (v := ?_) (a' := ?_) #[true, true, true, true, true, true, true, true, true, true, true, false] rfl rfl (any_of HT_.out (by kernel_rfl)) (fun _ _ _ h => h) (Or.inl ⟨by rfl, ?_⟩) ?_ ?_
  rotate_left
  ·intro w'
   go_simp
   with_reducible rfl
  rotate_left
  ·simp only [Act.put, List.setIfInBounds_toArray, List.set_cons_zero, List.set_cons_succ, i64_w, i32_w]
   rfl
  refine one_ (i := 11) (N := none) #[true, true, true, true, true, true, true, true, true, true, true, true] rfl rfl (one_of HT_.out (by kernel_rfl)) (by decide) (fun K hK => ?_)
  have hs10 : w9.cell? ⟨gb83002, 0, none⟩ = some (.int .i64 0) := (blk_cell BK83002.out 0).trans rfl
  have hfs10 := blk_frozen BK83002.out 0
  have hns10_0 := NB83001_83002.out
  have hms10_0 := NB83002_83001.out
  have hs11 : w9.cell? ⟨gb83002, 1, none⟩ = some (.int .i64 0) := (blk_cell BK83002.out 1).trans rfl
  have hfs11 := blk_frozen BK83002.out 1
  have hns11_0 := NB83001_83002.out
  have hms11_0 := NB83002_83001.out
  have hs12 : w9.cell? ⟨gb83002, 2, none⟩ = some (.bool false) := (blk_cell BK83002.out 2).trans rfl
  have hfs12 := blk_frozen BK83002.out 2
  have hns12_0 := NB83001_83002.out
  have hms12_0 := NB83002_83001.out
  refine skip_ (w1 := ?_) (by rfl) rfl ?_ ?_
  rotate_left
  ·go_simp
   rfl
  refine hK.out _ _ ⟨((cell_far (p := ⟨gb83002, _, none⟩) NB83001_83002.out _).trans (((cell_far (p := ⟨gb83002, _, none⟩) NB83001_83002.out _).trans (((cell_far (p := ⟨gb83002, _, none⟩) NB83001_83002.out _).trans (hHeld.1)))))), ((cell_far (p := ⟨gb83002, _, none⟩) NB83001_83002.out _).trans (((cell_far (p := ⟨gb83002, _, none⟩) NB83001_83002.out _).trans (((cell_far (p := ⟨gb83002, _, none⟩) NB83001_83002.out _).trans (hHeld.2.1)))))), ((cell_far (p := ⟨gb83002, _, none⟩) NB83001_83002.out _).trans (((cell_far (p := ⟨gb83002, _, none⟩) NB83001_83002.out _).trans (((cell_far (p := ⟨gb83002, _, none⟩) NB83001_83002.out _).trans (hHeld.2.2))))))⟩ (fun hHeld => ?_)
  clear hK K
  refine done_ (done_of HT_.out (by kernel_rfl)) ?_
  try go_wp2
  refine bodyPost_ret (results_cell_row rfl _ _ gb83002 56 #[.int .i64 t83003, .int .i64 a2, .bool (decide (a2 > 1))] (0, 0) _ rfl (by refine blk_put (cs := #[.int .i64 t83003, .int .i64 a2, .bool false]) ?_ 2 _ rfl; refine blk_put (cs := #[.int .i64 t83003, .int .i64 0, .bool false]) ?_ 1 _ rfl; refine blk_put (cs := #[.int .i64 0, .int .i64 0, .bool false]) ?_ 0 _ rfl; exact BK83002.out) Try.underlying56 rfl (by kernel_rfl)) rfl ?_
  exact ⟨by first | rfl | (simp [errW_none, errW_some] <;> rfl) | (simp [*, errW_none, errW_some] <;> rfl), by repeat (first | exact HB.out | apply below_alloc | apply pw_below_drewN | apply below_drew1 | refine below_set ?_ GE83001.out | refine below_set ?_ GE83002.out)⟩
 ·replace c5 := Bool.eq_false_iff.mpr c5
  subst c5
  have H1 : (some (t83003, a2, false)) = some (r1, r2, r3) := by rw [if_neg (show ¬ (false = true) by decide)] at H; first | exact H | simpa using H
  clear H
  have H := H1
  clear H1
  simp only [Option.some.injEq, Prod.mk.injEq] at H
  obtain ⟨rfl, rfl, rfl⟩ := H
  go_enter Try.func82, Try.ntmps82
  try go_wp2_with (first | ((with_reducible refine gate_dst (N := 3) rfl ?_); refine box_event ?hg (N := 3) ?hd (cs := #[.int .i64 a0_0, .int .i64 a0_1, .bool false]) (t := 56) ?hr ?_; (case hd => rfl); (case hg => rfl); (case hr => first | (go_simp; done) | (go_simp; rfl)); intro gb83001 hg w13 hbox hb; have n0_ := Aside0.mk (below_step (by repeat (first | exact HB.out | apply below_alloc | apply pw_below_drewN | apply below_drew1)) hb); have n1_ := Aside0.mk (hbox); have n2_ := Aside0.mk ((by rw [hg]; exact (below_size (by repeat (first | exact HB.out | apply below_alloc | apply pw_below_drewN | apply below_drew1))) : w.heap.size ≤ gb83001)); have n3_ := Aside0.mk ((by rw [hg]; exact (below_size (by repeat (first | exact HB.out | apply below_alloc | apply pw_below_drewN | apply below_drew1))) : w.heap.size ≤ gb83001)); clear HB; have HB := n0_; have BK83001 := n1_; have GW83001 := n2_; have GE83001 := n3_; clear n0_ n1_ n2_ n3_; clear hb hbox hg) | ((with_reducible refine gate_dst (N := 6) rfl ?_); refine box_event ?hg (N := 6) ?hd (cs := #[.int .i64 0, .int .i64 0, .bool false]) (t := 56) ?hr ?_; (case hd => rfl); (case hg => rfl); (case hr => first | (go_simp; done) | (go_simp; rfl)); intro gb83002 hg w14 hbox hb; have n0_ := Aside0.mk (blk_below (g := gb83001) (o := .cells #[.int .i64 a0_0, .int .i64 a0_1, .bool false] 56 (0, 0)) (BK83001.out) hb); have n1_ := Aside0.mk (below_step (by repeat (first | exact HB.out | apply below_alloc | apply pw_below_drewN | apply below_drew1 | refine below_set ?_ GE83001.out)) hb); have n2_ := Aside0.mk (hbox); have n3_ := Aside0.mk ((by rw [hg]; exact (below_size (by repeat (first | exact HB.out | apply below_alloc | apply pw_below_drewN | apply below_drew1 | refine below_set ?_ GE83001.out))) : w.heap.size ≤ gb83002)); have n4_ := Aside0.mk ((by rw [hg]; exact (below_size (by repeat (first | exact HB.out | apply below_alloc | apply pw_below_drewN | apply below_drew1 | refine below_set ?_ GE83001.out))) : w.heap.size ≤ gb83002)); have n5_ := Aside0.mk ((by rw [hg]; exact Nat.ne_of_lt (blk_lt (g := gb83001) (o := .cells #[.int .i64 a0_0, .int .i64 a0_1, .bool false] 56 (0, 0)) (BK83001.out)) : gb83001 ≠ gb83002)); have n6_ := Aside0.mk ((by rw [hg]; exact Nat.ne_of_gt (blk_lt (g := gb83001) (o := .cells #[.int .i64 a0_0, .int .i64 a0_1, .bool false] 56 (0, 0)) (BK83001.out)) : gb83002 ≠ gb83001)); clear BK83001; clear HB; have BK83001 := n0_; have HB := n1_; have BK83002 := n2_; have GW83002 := n3_; have GE83002 := n4_; have NB83001_83002 := n5_; have NB83002_83001 := n6_; clear n0_ n1_ n2_ n3_ n4_ n5_ n6_; clear hb hbox hg))
  have n0_ := Aside0.mk (blk_drew BK83001.out)
  have n1_ := Aside0.mk (blk_drew BK83002.out)
  have n2_ := Aside0.mk (below_drew1 HB.out)
  clear BK83001
  clear BK83002
  clear HB
  have BK83001 := n0_
  have BK83002 := n1_
  have HB := n2_
  clear n0_ n1_ n2_
  refine start_ (n := 12) (S := fun w' => w'.cell? ⟨gb83001, 0, none⟩ = some (.int .i64 a0_0) ∧ w'.cell? ⟨gb83001, 1, none⟩ = some (.int .i64 a0_1) ∧ w'.cell? ⟨gb83001, 2, none⟩ = some (.bool false)) (ds := []) #[false, false, false, false, false, false, false, false, false, false, false, false] (by kernel_rfl) rfl rfl ⟨(blk_cell BK83001.out 0).trans rfl, (blk_cell BK83001.out 1).trans rfl, (blk_cell BK83001.out 2).trans rfl⟩ (fun hHeld => ?_); refine with_tabW papermillref13_cut.tab1 papermillref13_cut.bits1 (fun HT_ HW_ => ?_)
  generalize w14.drew = w15 at BK83001 BK83002 HB hHeld ⊢
  refine pure_ (i := 1) (N := some 8) (v := ?_) (a' := ?_) #[false, true, false, false, false, false, false, false, false, false, false, false] rfl rfl (any_of HT_.out (by kernel_rfl)) (fun _ _ _ h => h) (Or.inl ⟨by rfl, ?_⟩) ?_ ?_
  rotate_left
  ·intro w'
   go_simp
   with_reducible rfl
  rotate_left
  ·simp only [Act.put, List.setIfInBounds_toArray, List.set_cons_zero, List.set_cons_succ, i64_w, i32_w]
   rfl
  refine pure_ (i := 3) (N := some 10) (v := ?_) (a' := ?_) #[false, true, false, true, false, false, false, false, false, false, false, false] rfl rfl (any_of HT_.out (by kernel_rfl)) (fun _ _ _ h => h) (Or.inl ⟨by rfl, ?_⟩) ?_ ?_
  rotate_left
  ·intro w'
   go_simp
   with_reducible rfl
  rotate_left
  ·simp only [Act.put, List.setIfInBounds_toArray, List.set_cons_zero, List.set_cons_succ, i64_w, i32_w]
   rfl
  refine pure_ (i := 4) (N := some 11) (v := ?_) (a' := ?_) #[false, true, false, true, true, false, false, false, false, false, false, false] rfl rfl (any_of HT_.out (by kernel_rfl)) (fun _ _ _ h => h) (Or.inl ⟨by rfl, ?_⟩) ?_ ?_
  rotate_left
  ·intro w'
   go_simp
   with_reducible rfl
  rotate_left
  ·simp only [Act.put, List.setIfInBounds_toArray, List.set_cons_zero, List.set_cons_succ, i64_w, i32_w]
   rfl
  refine take_ (i := 0) (N := some 7) (v := ?_) (a' := ?_) #[true, true, false, true, true, false, false, false, false, false, false, false] rfl rfl (take_ofW HT_.out HW_.out (by kernel_rfl)) (fun _ _ _ h => h) (Or.inl ⟨by rfl, ?_⟩) hHeld ?_ ?_
  rotate_left
  ·rintro w' ⟨s0, s1, s2⟩
   go_simp
   with_reducible rfl
  rotate_left
  ·simp only [Act.put, List.setIfInBounds_toArray, List.set_cons_zero, List.set_cons_succ, i64_w, i32_w]
   rfl
  refine take_ (i := 5) (N := some 12) (v := ?_) (a' := ?_) #[true, true, false, true, true, true, false, false, false, false, false, false] rfl rfl (take_ofW HT_.out HW_.out (by kernel_rfl)) (fun _ _ _ h => h) (Or.inl ⟨by rfl, ?_⟩) hHeld ?_ ?_
  rotate_left
  ·rintro w' ⟨s0, s1, s2⟩
   go_simp
   with_reducible rfl
  rotate_left
  ·simp only [Act.put, List.setIfInBounds_toArray, List.set_cons_zero, List.set_cons_succ, i64_w, i32_w]
   rfl
  refine one_ (i := 2) (N := some 9) #[true, true, true, true, true, true, false, false, false, false, false, false] rfl rfl (one_of HT_.out (by kernel_rfl)) (by decide) (fun K hK => ?_)
  refine goes_ Try.func83 (by kernel_rfl) rfl #[.agg #[.int .i64 a0_0, .int .i64 a0_1, .bool false], .int .i64 a1] (by rfl) rfl rfl (by (try simp only [List.map_toArray, List.map_cons, List.map_nil]); first | done | rfl | (simp only [List.length_drop, List.length_take]; rfl)) ?_
  with_reducible refine (papermillref13_image.calls a0_0 a0_1 false a1 t83003 _ A4.out).mono ?_
  rintro e w16 ⟨rfl, hb⟩
  refine ⟨_, rfl, ?_⟩
  have n0_ := Aside0.mk (blk_below (g := gb83001) (o := .cells #[.int .i64 a0_0, .int .i64 a0_1, .bool false] 56 (0, 0)) (BK83001.out) hb)
  have n1_ := Aside0.mk (blk_below (g := gb83002) (o := .cells #[.int .i64 0, .int .i64 0, .bool false] 56 (0, 0)) (BK83002.out) hb)
  have n2_ := Aside0.mk (below_step (by repeat (first | exact HB.out | apply below_alloc | apply pw_below_drewN | apply below_drew1 | refine below_set ?_ GE83001.out | refine below_set ?_ GE83002.out)) hb)
  clear BK83001
  clear BK83002
  clear HB
  have BK83001 := n0_
  have BK83002 := n1_
  have HB := n2_
  clear n0_ n1_ n2_
  (try clear hb)
  (try clear hb2)
  (try clear hk)
  (try clear hi)
  refine hK.out _ _ ⟨(blk_cell BK83001.out 0).trans rfl, (blk_cell BK83001.out 1).trans rfl, (blk_cell BK83001.out 2).trans rfl⟩ (fun hHeld => ?_)
  clear hK K
  refine norm_ (a' := ?_) ?_ ?_
  rotate_left
  ·show Act.put _ (some 9) _ = _
   simp only [Act.put, List.setIfInBounds_toArray, List.set_cons_zero, List.set_cons_succ, i64_w, i32_w]
   rfl
  refine pure_ (i := 6) (N := some 13) (v := ?_) (a' := ?_) #[true, true, true, true, true, true, true, false, false, false, false, false] rfl rfl (any_of HT_.out (by kernel_rfl)) (fun _ _ _ h => h) (Or.inl ⟨by rfl, ?_⟩) ?_ ?_
  rotate_left
  ·intro w'
   go_simp
   with_reducible rfl
  rotate_left
  ·simp only [Act.put, List.setIfInBounds_toArray, List.set_cons_zero, List.set_cons_succ, i64_w, i32_w]
   rfl
  refine pure_ (i := 7) (N := some 14) (v := undef) (a' := ?_) #[true, true, true, true, true, true, true, true, false, false, false, false] rfl rfl (any_of HT_.out (by kernel_rfl)) (fun _ _ _ h => h) (Or.inr ⟨by rfl, rfl⟩) ?_ ?_
  rotate_left
  ·simp only [Act.put, List.setIfInBounds_toArray, List.set_cons_zero, List.set_cons_succ, i64_w, i32_w]
   rfl
  refine pure_ (i := 8) (N := some 15) (v := undef) (a' := ?_) #[true, true, true, true, true, true, true, true, true, false, false, false] rfl rfl (any_of HT_.out (by kernel_rfl)) (fun _ _ _ h => h) (Or.inr ⟨by rfl, rfl⟩) ?_ ?_
  rotate_left
  ·simp only [Act.put, List.setIfInBounds_toArray, List.set_cons_zero, List.set_cons_succ, i64_w, i32_w]
   rfl
  refine pure_ (i := 9) (N := some 16) (v := ?_) (a' := ?_) #[true, true, true, true, true, true, true, true, true, true, false, false] rfl rfl (any_of HT_.out (by kernel_rfl)) (fun _ _ _ h => h) (Or.inl ⟨by rfl, ?_⟩) ?_ ?_
  rotate_left
  ·intro w'
   go_simp
   with_reducible rfl
  rotate_left
  ·simp only [Act.put, List.setIfInBounds_toArray, List.set_cons_zero, List.set_cons_succ, i64_w, i32_w]
   rfl
  refine pure_ (i := 10) (N := some 17) (v := ?_) (a' := ?_) #[true, true, true, true, true, true, true, true, true, true, true, false] rfl rfl (any_of HT_.out (by kernel_rfl)) (fun _ _ _ h => h) (Or.inl ⟨by rfl, ?_⟩) ?_ ?_
  rotate_left
  ·intro w'
   go_simp
   with_reducible rfl
  rotate_left
  ·simp only [Act.put, List.setIfInBounds_toArray, List.set_cons_zero, List.set_cons_succ, i64_w, i32_w]
   rfl
  refine one_ (i := 11) (N := none) #[true, true, true, true, true, true, true, true, true, true, true, true] rfl rfl (one_of HT_.out (by kernel_rfl)) (by decide) (fun K hK => ?_)
  have hs17 : w16.cell? ⟨gb83002, 0, none⟩ = some (.int .i64 0) := (blk_cell BK83002.out 0).trans rfl
  have hfs17 := blk_frozen BK83002.out 0
  have hns17_0 := NB83001_83002.out
  have hms17_0 := NB83002_83001.out
  have hs18 : w16.cell? ⟨gb83002, 1, none⟩ = some (.int .i64 0) := (blk_cell BK83002.out 1).trans rfl
  have hfs18 := blk_frozen BK83002.out 1
  have hns18_0 := NB83001_83002.out
  have hms18_0 := NB83002_83001.out
  have hs19 : w16.cell? ⟨gb83002, 2, none⟩ = some (.bool false) := (blk_cell BK83002.out 2).trans rfl
  have hfs19 := blk_frozen BK83002.out 2
  have hns19_0 := NB83001_83002.out
  have hms19_0 := NB83002_83001.out
  refine skip_ (w1 := ?_) (by rfl) rfl ?_ ?_
  rotate_left
  ·go_simp
   rfl
  refine hK.out _ _ ⟨((cell_far (p := ⟨gb83002, _, none⟩) NB83001_83002.out _).trans (((cell_far (p := ⟨gb83002, _, none⟩) NB83001_83002.out _).trans (((cell_far (p := ⟨gb83002, _, none⟩) NB83001_83002.out _).trans (hHeld.1)))))), ((cell_far (p := ⟨gb83002, _, none⟩) NB83001_83002.out _).trans (((cell_far (p := ⟨gb83002, _, none⟩) NB83001_83002.out _).trans (((cell_far (p := ⟨gb83002, _, none⟩) NB83001_83002.out _).trans (hHeld.2.1)))))), ((cell_far (p := ⟨gb83002, _, none⟩) NB83001_83002.out _).trans (((cell_far (p := ⟨gb83002, _, none⟩) NB83001_83002.out _).trans (((cell_far (p := ⟨gb83002, _, none⟩) NB83001_83002.out _).trans (hHeld.2.2))))))⟩ (fun hHeld => ?_)
  clear hK K
  refine done_ (done_of HT_.out (by kernel_rfl)) ?_
  try go_wp2
  refine bodyPost_ret (results_cell_row rfl _ _ gb83002 56 #[.int .i64 t83003, .int .i64 a2, .bool false] (0, 0) _ rfl (by refine blk_put (cs := #[.int .i64 t83003, .int .i64 a2, .bool false]) ?_ 2 _ rfl; refine blk_put (cs := #[.int .i64 t83003, .int .i64 0, .bool false]) ?_ 1 _ rfl; refine blk_put (cs := #[.int .i64 0, .int .i64 0, .bool false]) ?_ 0 _ rfl; exact BK83002.out) Try.underlying56 rfl (by kernel_rfl)) rfl ?_
  exact ⟨by first | rfl | (simp [errW_none, errW_some] <;> rfl) | (simp [*, errW_none, errW_some] <;> rfl), by repeat (first | exact HB.out | apply below_alloc | apply pw_below_drewN | apply below_drew1 | refine below_set ?_ GE83001.out | refine below_set ?_ GE83002.out)⟩

end Go.Proofs.Ytjkakgkiikjdmaa.G

namespace Go.Proofs.Ytjkakgkiikjdmaa.G
open Go.RowKit Go.Proofs.YtjkakgkiikjdmaaW.PrintWords Go.Proofs.YtjkakgkiikjdmaaW.PrintLast Go.Proofs.YtjkakgkiikjdmaaW.PrintMore
attribute [local go_sem] max2_int min2_int max_two min_two max_three min_three max_four min_four   -- for this text's walks alone
set_option linter.unusedVariables false
set_option linter.unusedSimpArgs false

mutual
def papermillref13_more.l0 : Nat → List (S56) → Int → Int → Bool → Option ((List (S56)))
 | 0, _, _, _, _ => none
 | k + 1, x5, x76002000, x76002001, x76002002 => if x76002001 > 0 then (if (wrap64 ((x5.length : Int) - 1)) < 0 then ((papermillref13_cut.f x76002000 x76002001 x76002002 0 x76002001).bind fun bt76008 => (if x5.length < 5864062014805 then (some (x5 ++ [(⟨bt76008.1, bt76008.2.1, bt76008.2.2⟩ : S56)])) else (none))) else (if 0 ≤ (wrap64 ((x5.length : Int) - 1)) then (if (wrap64 ((x5.length : Int) - 1)) < (x5.length : Int) then ((papermillref13_image.f ((rd_T56 x5 (wrap64 ((x5.length : Int) - 1))).f0) ((rd_T56 x5 (wrap64 ((x5.length : Int) - 1))).f1) ((rd_T56 x5 (wrap64 ((x5.length : Int) - 1))).f2) (wrap64 (((rd_T56 x5 (wrap64 ((x5.length : Int) - 1))).f1) - 1))).bind fun t76016 => (if (wrap64 (x76002000 - t76016)) = 1 then (if ((rd_T56 x5 (wrap64 ((x5.length : Int) - 1))).f1) > 1 then (papermillref13_more.j1 k x5 (wrap64 ((x5.length : Int) - 1)) (wrap64 (x76002000 - t76016)) (((rd_T56 x5 (wrap64 ((x5.length : Int) - 1))).f2) != ((wrap64 (x76002000 - t76016)) == (-1))) x76002000 x76002001 x76002002 ((rd_T56 x5 (wrap64 ((x5.length : Int) - 1))).f0) ((rd_T56 x5 (wrap64 ((x5.length : Int) - 1))).f1) ((rd_T56 x5 (wrap64 ((x5.length : Int) - 1))).f2)) else (papermillref13_more.j1 k x5 (wrap64 ((x5.length : Int) - 1)) (wrap64 (x76002000 - t76016)) false x76002000 x76002001 x76002002 ((rd_T56 x5 (wrap64 ((x5.length : Int) - 1))).f0) ((rd_T56 x5 (wrap64 ((x5.length : Int) - 1))).f1) ((rd_T56 x5 (wrap64 ((x5.length : Int) - 1))).f2))) else (if (wrap64 (x76002000 - t76016)) = (-1) then (if ((rd_T56 x5 (wrap64 ((x5.length : Int) - 1))).f1) > 1 then (papermillref13_more.j1 k x5 (wrap64 ((x5.length : Int) - 1)) (wrap64 (x76002000 - t76016)) (((rd_T56 x5 (wrap64 ((x5.length : Int) - 1))).f2) != ((wrap64 (x76002000 - t76016)) == (-1))) x76002000 x76002001 x76002002 ((rd_T56 x5 (wrap64 ((x5.length : Int) - 1))).f0) ((rd_T56 x5 (wrap64 ((x5.length : Int) - 1))).f1) ((rd_T56 x5 (wrap64 ((x5.length : Int) - 1))).f2)) else (papermillref13_more.j1 k x5 (wrap64 ((x5.length : Int) - 1)) (wrap64 (x76002000 - t76016)) false x76002000 x76002001 x76002002 ((rd_T56 x5 (wrap64 ((x5.length : Int) - 1))).f0) ((rd_T56 x5 (wrap64 ((x5.length : Int) - 1))).f1) ((rd_T56 x5 (wrap64 ((x5.length : Int) - 1))).f2))) else (papermillref13_more.j1 k x5 (wrap64 ((x5.length : Int) - 1)) (wrap64 (x76002000 - t76016)) true x76002000 x76002001 x76002002 ((rd_T56 x5 (wrap64 ((x5.length : Int) - 1))).f0) ((rd_T56 x5 (wrap64 ((x5.length : Int) - 1))).f1) ((rd_T56 x5 (wrap64 ((x5.length : Int) - 1))).f2))))) else (none)) else (none))) else (some x5)
def papermillref13_more.j1 : Nat → List (S56) → Int → Int → Bool → Int → Int → Bool → Int → Int → Bool → Option ((List (S56)))
 | 0, _, _, _, _, _, _, _, _, _, _ => none
 | k + 1, x5, x6, x8, x57, x76002000, x76002001, x76002002, x76016000, x76016001, x76016002 => if x57 = true then ((papermillref13_cut.f x76002000 x76002001 x76002002 0 x76002001).bind fun bt76017 => (if x5.length < 5864062014805 then (some (x5 ++ [(⟨bt76017.1, bt76017.2.1, bt76017.2.2⟩ : S56)])) else (none))) else (if x76002001 > 1 then (papermillref13_more.j2 k x5 x6 x8 x76002001 (x76002002 != (x8 == (-1))) x76002000 x76002001 x76002002 x76016000 x76016001 x76016002) else (papermillref13_more.j2 k x5 x6 x8 x76002001 false x76002000 x76002001 x76002002 x76016000 x76016001 x76016002))
def papermillref13_more.j2 : Nat → List (S56) → Int → Int → Int → Bool → Int → Int → Bool → Int → Int → Bool → Option ((List (S56)))
 | 0, _, _, _, _, _, _, _, _, _, _, _ => none
 | k + 1, x5, x6, x8, x9, x75, x76002000, x76002001, x76002002, x76016000, x76016001, x76016002 => if x75 = true then (if 0 ≤ x6 then (if x6 < (x5.length : Int) then ((some (x5.set (x6 : Int).toNat (⟨x76016000, wrap64 (x76016001 + 1), (x8 == (-1))⟩ : S56) : List (S56))).bind fun y76023 => (if 1 = x76002001 then (some y76023) else ((papermillref13_cut.f x76002000 x76002001 x76002002 1 (wrap64 (x76002001 - 1))).bind fun bt76024 => (papermillref13_more.l0 k y76023 bt76024.1 bt76024.2.1 bt76024.2.2)))) else (none)) else (none)) else (if 0 ≤ x6 then (if x6 < (x5.length : Int) then ((some (x5.set (x6 : Int).toNat (⟨x76016000, wrap64 (x76016001 + x9), (x8 == (-1))⟩ : S56) : List (S56))).bind fun y76027 => (if x9 = x76002001 then (some y76027) else ((papermillref13_cut.f x76002000 x76002001 x76002002 x9 (wrap64 (x76002001 - x9))).bind fun bt76028 => (papermillref13_more.l0 k y76027 bt76028.1 bt76028.2.1 bt76028.2.2)))) else (none)) else (none))
end
def papermillref13_more.f (k : Nat) (l0 : List (S56)) (a1_0 : Int) (a1_1 : Int) (a1_2 : Bool) : Option ((List (S56))) := (some (([] : List (S56)) : List (S56))).bind fun y76002 => (if y76002.length + l0.length < 5864062014805 then (papermillref13_more.l0 k (y76002 ++ l0) a1_0 a1_1 a1_2) else (none))
theorem papermillref13_more.mono_l : ∀ k, (∀ y0 y1 y2 y3, LeO (papermillref13_more.l0 k y0 y1 y2 y3) (papermillref13_more.l0 (k + 1) y0 y1 y2 y3)) ∧ (∀ y0 y1 y2 y3 y4 y5 y6 y7 y8 y9, LeO (papermillref13_more.j1 k y0 y1 y2 y3 y4 y5 y6 y7 y8 y9) (papermillref13_more.j1 (k + 1) y0 y1 y2 y3 y4 y5 y6 y7 y8 y9)) ∧ (∀ y0 y1 y2 y3 y4 y5 y6 y7 y8 y9 y10, LeO (papermillref13_more.j2 k y0 y1 y2 y3 y4 y5 y6 y7 y8 y9 y10) (papermillref13_more.j2 (k + 1) y0 y1 y2 y3 y4 y5 y6 y7 y8 y9 y10))
 | 0 => ⟨fun _ _ _ _ r h => by simp [papermillref13_more.l0] at h, fun _ _ _ _ _ _ _ _ _ _ r h => by simp [papermillref13_more.j1] at h, fun _ _ _ _ _ _ _ _ _ _ _ r h => by simp [papermillref13_more.j2] at h⟩
 | k + 1 => by
  obtain ⟨ih0, ih1, ih2⟩ := papermillref13_more.mono_l k
  refine ⟨?_, ?_, ?_⟩
  ·intro y0 y1 y2 y3
   unfold papermillref13_more.l0
   repeat' first
   | (with_reducible exact ih0 _ _ _ _)
   | (with_reducible exact ih1 _ _ _ _ _ _ _ _ _ _)
   | (with_reducible exact ih2 _ _ _ _ _ _ _ _ _ _ _)
   | (with_reducible exact LeO.refl _)
   | (with_reducible exact LeO.none _)
   | (with_reducible refine LeO.ite ?_ ?_)
   | (with_reducible refine LeO.bind ?_ (fun _ => ?_))
   | exact ih0 _ _ _ _
   | exact ih1 _ _ _ _ _ _ _ _ _ _
   | exact ih2 _ _ _ _ _ _ _ _ _ _ _
   | exact LeO.none _
   | refine LeO.ite ?_ ?_
   | refine LeO.bind ?_ (fun _ => ?_)
  ·intro y0 y1 y2 y3 y4 y5 y6 y7 y8 y9
   unfold papermillref13_more.j1
   repeat' first
   | (with_reducible exact ih0 _ _ _ _)
   | (with_reducible exact ih1 _ _ _ _ _ _ _ _ _ _)
   | (with_reducible exact ih2 _ _ _ _ _ _ _ _ _ _ _)
   | (with_reducible exact LeO.refl _)
   | (with_reducible exact LeO.none _)
   | (with_reducible refine LeO.ite ?_ ?_)
   | (with_reducible refine LeO.bind ?_ (fun _ => ?_))
   | exact ih0 _ _ _ _
   | exact ih1 _ _ _ _ _ _ _ _ _ _
   | exact ih2 _ _ _ _ _ _ _ _ _ _ _
   | exact LeO.none _
   | refine LeO.ite ?_ ?_
   | refine LeO.bind ?_ (fun _ => ?_)
  ·intro y0 y1 y2 y3 y4 y5 y6 y7 y8 y9 y10
   unfold papermillref13_more.j2
   repeat' first
   | (with_reducible exact ih0 _ _ _ _)
   | (with_reducible exact ih1 _ _ _ _ _ _ _ _ _ _)
   | (with_reducible exact ih2 _ _ _ _ _ _ _ _ _ _ _)
   | (with_reducible exact LeO.refl _)
   | (with_reducible exact LeO.none _)
   | (with_reducible refine LeO.ite ?_ ?_)
   | (with_reducible refine LeO.bind ?_ (fun _ => ?_))
   | exact ih0 _ _ _ _
   | exact ih1 _ _ _ _ _ _ _ _ _ _
   | exact ih2 _ _ _ _ _ _ _ _ _ _ _
   | exact LeO.none _
   | refine LeO.ite ?_ ?_
   | refine LeO.bind ?_ (fun _ => ?_)
theorem papermillref13_more.mono : ∀ a0 a1 a2 a3 k, LeO (papermillref13_more.f k a0 a1 a2 a3) (papermillref13_more.f (k + 1) a0 a1 a2 a3) := by
 intro a0 a1 a2 a3 k
 obtain ⟨ih0, ih1, ih2⟩ := papermillref13_more.mono_l k
 unfold papermillref13_more.f
 repeat' first
   | (with_reducible exact ih0 _ _ _ _)
   | (with_reducible exact ih1 _ _ _ _ _ _ _ _ _ _)
   | (with_reducible exact ih2 _ _ _ _ _ _ _ _ _ _ _)
   | (with_reducible exact LeO.refl _)
   | (with_reducible exact LeO.none _)
   | (with_reducible refine LeO.ite ?_ ?_)
   | (with_reducible refine LeO.bind ?_ (fun _ => ?_))
   | exact ih0 _ _ _ _
   | exact ih1 _ _ _ _ _ _ _ _ _ _
   | exact ih2 _ _ _ _ _ _ _ _ _ _ _
   | exact LeO.none _
   | refine LeO.ite ?_ ?_
   | refine LeO.bind ?_ (fun _ => ?_)
def papermillref13_more.T7 : Bool × List (List Nat × List Nat) := (true, [([], []), ([0], [0]), ([], []), ([], []), ([3], [3]), ([4], [4]), ([2, 5], [2, 5]), ([1, 6], [1, 6]), ([7, 6, 0, 1, 2, 3, 4, 5, 6, 7], [7])])
def papermillref13_more.B7 : List Nat := [0, 1, 0, 0, 8, 24, 60, 127, 255]
theorem papermillref13_more.tab7 : rtab .any (opsOf Try.f75 7) = papermillref13_more.T7 := by kernel_rfl
theorem papermillref13_more.bits7 : waitsOk papermillref13_more.T7.2 papermillref13_more.B7 = true := by kernel_rfl
set_option maxHeartbeats 8000000 in
set_option maxRecDepth 100000 in
theorem papermillref13_more.calls (k : Nat) (A0 : Option Addr) (c0 : Nat) (l0 : List (S56)) (a1_0 : Int) (a1_1 : Int) (a1_2 : Bool) (r : List (S56)) (w : World) (hr0 : Kd.C k56 w A0 l0.length l0) (hc0 : l0.length ≤ c0) (h : papermillref13_more.f k l0 a1_0 a1_1 a1_2 = some r) :
  Calls Try.prog 75 #[.slice A0 l0.length c0, .agg #[.int .i64 a1_0, .int .i64 a1_1, .bool a1_2]] w fun e w' => ∃ v0_ : Value, e = .returned (v0_) ∧ Kd.R k56 56 w' w.heap.size (fun _ => True) v0_ r ∧ Below w.heap.size w w' := by
 have hu56 := Try.underlying56
 have HR0 := Aside0.mk hr0
 have HC0 := Aside0.mk hc0
 clear hr0 hc0
 have HB := Aside0.mk (Below.refl w.heap.size w)
 have H : ((some (([] : List (S56)) : List (S56))).bind fun y76002 => (if y76002.length + l0.length < 5864062014805 then (papermillref13_more.l0 k (y76002 ++ l0) a1_0 a1_1 a1_2) else (none))) = some r := h
 clear h
 obtain ⟨y76002, hy76002⟩ : ∃ y_ : List (S56), y_ = (([] : List (S56))) := ⟨_, rfl⟩
 replace H : (if y76002.length + l0.length < 5864062014805 then (papermillref13_more.l0 k (y76002 ++ l0) a1_0 a1_1 a1_2) else (none)) = some r := by first | (rw [hy76002]; with_reducible exact H) | (have H2_ := (Option.bind_some _ _).symm.trans H; rw [hy76002]; with_reducible exact H2_) | (have H2_ := (Option.bind_some _ _).symm.trans H; with_reducible exact H2_) | with_reducible exact H | (rw [hy76002]; exact H) | exact H
 have Ny76002 := Aside0.mk hy76002
 clear hy76002
 by_cases c3 : y76002.length + l0.length < 5864062014805
 ·rw [if_pos c3] at H
  have LMc3 := Aside0.mk c3
  clear c3
  obtain ⟨y76005, hy76005⟩ : ∃ y_ : List (S56), y_ = (y76002 ++ l0) := ⟨_, rfl⟩
  replace H : (papermillref13_more.l0 k y76005 a1_0 a1_1 a1_2) = some r := by first | (rw [hy76005]; with_reducible exact H) | (have H2_ := (Option.bind_some _ _).symm.trans H; rw [hy76005]; with_reducible exact H2_) | (have H2_ := (Option.bind_some _ _).symm.trans H; with_reducible exact H2_) | with_reducible exact H | (rw [hy76005]; exact H) | exact H
  have Ny76005 := Aside0.mk hy76005
  clear hy76005
  have H' := Aside0.mk H
  clear H
  go_enter Try.func75, Try.ntmps75
  go_wp2_with (first | ((with_reducible refine gate_dst (N := 3) rfl ?_); refine box_event ?hg (N := 3) ?hd (cs := #[.int .i64 a1_0, .int .i64 a1_1, .bool a1_2]) (t := 56) ?hr ?_; (case hd => rfl); (case hg => rfl); (case hr => first | (go_simp; done) | (go_simp; rfl)); intro gb76001 hg w4 hbox hb; have n0_ := Aside0.mk (below_step (by repeat (first | exact HB.out | apply below_alloc | apply pw_below_drewN | apply below_drew1)) hb); have n1_ := Aside0.mk (hbox); have n2_ := Aside0.mk ((by rw [hg]; exact (below_size (by repeat (first | exact HB.out | apply below_alloc | apply pw_below_drewN | apply below_drew1))) : w.heap.size ≤ gb76001)); have n3_ := Aside0.mk ((by rw [hg]; exact (below_size (by repeat (first | exact HB.out | apply below_alloc | apply pw_below_drewN | apply below_drew1))) : w.heap.size ≤ gb76001)); clear HB; have HB := n0_; have BK76001 := n1_; have GW76001 := n2_; have GE76001 := n3_; clear n0_ n1_ n2_ n3_; clear hb hbox hg) | ((with_reducible refine gate_dst (N := 10) rfl ?_); refine Kd.R_lit k56 _ 56 ?hg (N := 10) ?hd (xs := ([] : List (S56))) (inner := []) (ok := fun _ => True) (okp := fun _ => True) ?hr ?hp (fun _ hk => hk) trivial (Below.refl _ _) (Nat.le_refl _) (by simp) ?_; (case hd => rfl); (case hg => rfl); (case hr => first | (go_simp; done) | (go_simp; rfl)); (case hp => exact (Reps.none _ _)); intro v76003 w5 ho6 hb hg_ hnew_; clear hg_ hnew_; (first | rw [← Ny76002.out] at ho6 | (simp only [Int.reduceToNat] at ho6; rw [← Ny76002.out] at ho6)); have n0_ := Aside0.mk (Kd.R_lower (Kd.R_newB ho6 (g := gb76001) (o := .cells #[.int .i64 a1_0, .int .i64 a1_1, .bool a1_2] 56 (0, 0)) (BK76001.out)) (below_size (by repeat (first | exact HB.out | apply below_alloc | apply pw_below_drewN | apply below_drew1 | refine below_set ?_ GE76001.out)))); have n1_ := Aside0.mk (blk_below (g := gb76001) (o := .cells #[.int .i64 a1_0, .int .i64 a1_1, .bool a1_2] 56 (0, 0)) (BK76001.out) hb); have n2_ := Aside0.mk (below_step (by repeat (first | exact HB.out | apply below_alloc | apply pw_below_drewN | apply below_drew1 | refine below_set ?_ GE76001.out)) hb); clear BK76001; clear HB; have HO76004 := n0_; have BK76001 := n1_; have HB := n2_; clear n0_ n1_ n2_; clear hb ho6) | ((with_reducible refine gate_builtin (b := .append) (xs := #[.tmp 10, .tmp 11]) rfl ?_); at_builtin; refine Kd.R_append_rows k56 (w0 := w) w.heap.size rfl (.tmp 10) (.tmp 11) 32 56 (.agg #[(.int .i64 0), (.int .i64 0), (.bool false)]) 24 rfl Try.underlying32 info56 rfl (by decide) (by omega) v76003 y76002 l0 _ _ _ (fun k_ => k_ ≠ gb76001) (fun _ => False) rfl rfl ?aO ?aR (fun _ _ h => h) (fun _ h => h.elim) ?aF ?aB ?aS ?aL ?_; (case aR => exact (Kd.C_below HR0.out HB.out)); (case aB => exact (by repeat (first | exact HB.out | apply below_alloc | apply pw_below_drewN | apply below_drew1 | refine below_set ?_ GE76001.out))); (case aF => exact (fun k_ hk => Kd.freshB (g := gb76001) (o := .cells #[.int .i64 a1_0, .int .i64 a1_1, .bool a1_2] 56 (0, 0)) (BK76001.out) k_ hk)); (case aO => exact (by exact Kd.R_mono HO76004.out (fun _ hk => hk.2))); (case aS => exact (below_size (by repeat (first | exact HB.out | apply below_alloc | apply pw_below_drewN | apply below_drew1 | refine below_set ?_ GE76001.out)))); (case aL => have := LMc3.out; omega); intro v76006 w7 ho hb hg hat; rw [← Ny76005.out] at ho; have n0_ := Aside0.mk (blk_grown (g := gb76001) (o := .cells #[.int .i64 a1_0, .int .i64 a1_1, .bool a1_2] 56 (0, 0)) (BK76001.out) hg (Kd.R_away HO76004.out (fun _ hk => hk.2))); have n1_ := Aside0.mk (hb); have n2_ := Aside0.mk (ho); clear BK76001; clear HB; clear HO76004; have BK76001 := n0_; have HB := n1_; have HO76007 := n2_; clear n0_ n1_ n2_; clear ho hb hg hat))
  go_loopg [] k (fun kq w' => ∃ (x5_1 : List (S56)) (x76002000_1 : Int) (x76002001_1 : Int) (x76002002_1 : Bool), Aside0 (papermillref13_more.l0 kq x5_1 x76002000_1 x76002001_1 x76002002_1 = some r) ∧ Aside0 (kq ≤ k) ∧ Aside0 (Kd.R k56 56 w' w.heap.size (fun k_ => k_ ≠ gb76001) v76006 x5_1) ∧ Aside0 (w'.heap[gb76001]? = some (.cells #[.int .i64 x76002000_1, .int .i64 x76002001_1, .bool x76002002_1] 56 (0, 0))) ∧ Aside0 (Below w.heap.size w w'))
  case atStart => exact ⟨(y76005), (a1_0), (a1_1), (a1_2), H', ⟨Nat.le_refl _⟩, ⟨HO76007.out⟩, ⟨BK76001.out⟩, ⟨by repeat (first | exact HB.out | apply below_alloc | apply pw_below_drewN | apply below_drew1 | refine below_set ?_ GE76001.out)⟩⟩
  case round =>
   clear H'
   try clear p2
   try clear c3
   try clear c7
   obtain ⟨x5_1, x76002000_1, x76002001_1, x76002002_1, HA, HK1, HO_5, BK76001, HB⟩ := hrel
   cases gk with
   | zero => exact absurd HA.out (by simp [papermillref13_more.l0])
   | succ k1 =>
    have H := HA.out
    clear HA
    simp only [papermillref13_more.l0] at H
    by_cases c8 : x76002001_1 > 0
    ·rw [if_pos c8] at H
     have c8b0 : decide (0 < x76002001_1) = true := decide_eq_true c8
     clear c8
     by_cases c9 : (wrap64 ((x5_1.length : Int) - 1)) < 0
     ·rw [if_pos c9] at H
      have c9b0 : decide ((wrap64 ((x5_1.length : Int) - 1)) < 0) = true := decide_eq_true c9
      clear c9
      replace H := Option.bind_eq_some_iff.mp H
      obtain ⟨⟨t76008, t76009, t76010⟩, A100, H⟩ := H
      replace H : (if x5_1.length < 5864062014805 then (some (x5_1 ++ [(⟨t76008, t76009, t76010⟩ : S56)])) else (none)) = some r := H
      have A10 := Aside0.mk A100
      clear A100
      by_cases c11 : x5_1.length < 5864062014805
      ·rw [if_pos c11] at H
       have LMc11 := Aside0.mk c11
       clear c11
       obtain ⟨y76011, hy76011⟩ : ∃ y_ : List (S56), y_ = (x5_1 ++ [(⟨t76008, t76009, t76010⟩ : S56)]) := ⟨_, rfl⟩
       replace H : (some y76011) = some r := by first | (rw [hy76011]; with_reducible exact H) | (have H2_ := (Option.bind_some _ _).symm.trans H; rw [hy76011]; with_reducible exact H2_) | (have H2_ := (Option.bind_some _ _).symm.trans H; with_reducible exact H2_) | with_reducible exact H | (rw [hy76011]; exact H) | exact H
       have Ny76011 := Aside0.mk hy76011
       clear hy76011
       obtain rfl := Option.some.inj H
       have hcz12_0 : wr.cell? ⟨gb76001, 0, none⟩ = some (.int .i64 x76002000_1) := (blk_cell BK76001.out 0).trans rfl
       have hcz12_1 : wr.cell? ⟨gb76001, 1, none⟩ = some (.int .i64 x76002001_1) := (blk_cell BK76001.out 1).trans rfl
       have hcz12_2 : wr.cell? ⟨gb76001, 2, none⟩ = some (.bool x76002002_1) := (blk_cell BK76001.out 2).trans rfl
       have hfz12_0 := blk_frozen BK76001.out 0
       have hfz12_1 := blk_frozen BK76001.out 1
       have hfz12_2 := blk_frozen BK76001.out 2
       obtain ⟨Ao13, co13, eo13⟩ := Kd.R_slice HO_5.out
       subst eo13
       go_wp2_with (first | ((with_reducible refine gate_callee (f := 82) rfl ?_); refine goesL_ (some 25) rfl rfl Try.func82 (by kernel_rfl) rfl #[.agg #[.int .i64 x76002000_1, .int .i64 x76002001_1, .bool x76002002_1], .int .i64 0, .int .i64 x76002001_1] rfl (by (try simp only [List.map_toArray, List.map_cons, List.map_nil]); first | done | rfl | (simp only [List.length_drop, List.length_take]; rfl)) ?_; (with_reducible refine (papermillref13_cut.calls x76002000_1 x76002001_1 x76002002_1 0 x76002001_1 t76008 t76009 t76010 _ A10.out).mono ?_); rintro e w14 ⟨rfl, hb⟩; refine ⟨_, rfl, ?_⟩; have n0_ := Aside0.mk (Kd.R_below (HO_5.out) hb); have n1_ := Aside0.mk (blk_below (g := gb76001) (o := .cells #[.int .i64 x76002000_1, .int .i64 x76002001_1, .bool x76002002_1] 56 (0, 0)) (BK76001.out) hb); have n2_ := Aside0.mk (below_step (by repeat (first | exact HB.out | apply below_alloc | apply pw_below_drewN | apply below_drew1 | refine below_set ?_ GE76001.out)) hb); clear HO_5; clear BK76001; clear HB; have HO_5 := n0_; have BK76001 := n1_; have HB := n2_; clear n0_ n1_ n2_; (try clear hb); (try clear hb2); (try clear hk); (try clear hi)) | ((with_reducible refine gate_builtin (b := .append) (xs := #[.tmp 21, .tmp 26]) rfl ?_); at_builtin; refine Kd.R_append k56 (w0 := w) w.heap.size rfl (.tmp 21) (.tmp 26) 32 56 (.agg #[(.int .i64 0), (.int .i64 0), (.bool false)]) 24 rfl Try.underlying32 info56 rfl (by decide) (by omega) (.slice Ao13 x5_1.length co13) x5_1 (⟨t76008, t76009, t76010⟩ : S56) [.int .i64 t76008, .int .i64 t76009, .bool t76010] (fun k_ => k_ ≠ gb76001) (fun _ => False) rfl rfl ?aP (fun _ hk => hk.elim) ?aF ?aO ?aB ?aS ?aL ?_; (case aP => exact k56_mkM _ _ _ (⟨t76008, t76009, t76010⟩ : S56)); (case aB => exact (by repeat (first | exact HB.out | apply below_alloc | apply pw_below_drewN | apply below_drew1 | refine below_set ?_ GE76001.out))); (case aF => exact (fun k_ hk => Kd.freshB (g := gb76001) (o := .cells #[.int .i64 x76002000_1, .int .i64 x76002001_1, .bool x76002002_1] 56 (0, 0)) (BK76001.out) k_ hk)); (case aO => exact (HO_5.out)); (case aS => exact (below_size (by repeat (first | exact HB.out | apply below_alloc | apply pw_below_drewN | apply below_drew1 | refine below_set ?_ GE76001.out)))); (case aL => have := LMc11.out; omega); intro v76012 w15 ho hb hg hat; rw [← Ny76011.out] at ho; have n0_ := Aside0.mk (blk_grown (g := gb76001) (o := .cells #[.int .i64 x76002000_1, .int .i64 x76002001_1, .bool x76002002_1] 56 (0, 0)) (BK76001.out) hg (Kd.R_away HO_5.out (fun _ hk => hk))); have n1_ := Aside0.mk (hb); have n2_ := Aside0.mk (ho); clear BK76001; clear HB; clear HO_5; have BK76001 := n0_; have HB := n1_; have HO76013 := n2_; clear n0_ n1_ n2_; clear ho hb hg hat))
       go_ret
       exact ⟨_, by first | rfl | (simp [errW_none, errW_some] <;> rfl) | (simp [*, errW_none, errW_some] <;> rfl), by exact Kd.R_mono HO76013.out (fun _ hk => trivial), by repeat (first | exact HB.out | apply below_alloc | apply pw_below_drewN | apply below_drew1 | refine below_set ?_ GE76001.out)⟩
      ·rw [if_neg c11] at H
       exact absurd H (by simp)
     ·rw [if_neg c9] at H
      have c9b0 : decide ((wrap64 ((x5_1.length : Int) - 1)) < 0) = false := decide_eq_false c9
      clear c9
      obtain ⟨ji16, hji16⟩ : ∃ j_ : Int, (wrap64 ((x5_1.length : Int) - 1)) = j_ := ⟨_, rfl⟩
      replace H : (if 0 ≤ (ji16) then (if (ji16) < (x5_1.length : Int) then ((papermillref13_image.f ((rd_T56 x5_1 (ji16)).f0) ((rd_T56 x5_1 (ji16)).f1) ((rd_T56 x5_1 (ji16)).f2) (wrap64 (((rd_T56 x5_1 (ji16)).f1) - 1))).bind fun t76016 => (if (wrap64 (x76002000_1 - t76016)) = 1 then (if ((rd_T56 x5_1 (ji16)).f1) > 1 then (papermillref13_more.j1 k1 x5_1 ji16 (wrap64 (x76002000_1 - t76016)) (((rd_T56 x5_1 (ji16)).f2) != ((wrap64 (x76002000_1 - t76016)) == (-1))) x76002000_1 x76002001_1 x76002002_1 ((rd_T56 x5_1 (ji16)).f0) ((rd_T56 x5_1 (ji16)).f1) ((rd_T56 x5_1 (ji16)).f2)) else (papermillref13_more.j1 k1 x5_1 ji16 (wrap64 (x76002000_1 - t76016)) false x76002000_1 x76002001_1 x76002002_1 ((rd_T56 x5_1 (ji16)).f0) ((rd_T56 x5_1 (ji16)).f1) ((rd_T56 x5_1 (ji16)).f2))) else (if (wrap64 (x76002000_1 - t76016)) = (-1) then (if ((rd_T56 x5_1 (ji16)).f1) > 1 then (papermillref13_more.j1 k1 x5_1 ji16 (wrap64 (x76002000_1 - t76016)) (((rd_T56 x5_1 (ji16)).f2) != ((wrap64 (x76002000_1 - t76016)) == (-1))) x76002000_1 x76002001_1 x76002002_1 ((rd_T56 x5_1 (ji16)).f0) ((rd_T56 x5_1 (ji16)).f1) ((rd_T56 x5_1 (ji16)).f2)) else (papermillref13_more.j1 k1 x5_1 ji16 (wrap64 (x76002000_1 - t76016)) false x76002000_1 x76002001_1 x76002002_1 ((rd_T56 x5_1 (ji16)).f0) ((rd_T56 x5_1 (ji16)).f1) ((rd_T56 x5_1 (ji16)).f2))) else (papermillref13_more.j1 k1 x5_1 ji16 (wrap64 (x76002000_1 - t76016)) true x76002000_1 x76002001_1 x76002002_1 ((rd_T56 x5_1 (ji16)).f0) ((rd_T56 x5_1 (ji16)).f1) ((rd_T56 x5_1 (ji16)).f2))))) else (none)) else (none)) = some r := by first | (rw [hji16] at H; exact H) | (simp only [hji16] at H ⊢; exact H)
      (try rw [hji16] at c9b0)
      have hji16w : (IntKind.i64.wrap ((x5_1.length : Int) - 1)) = ji16 := (i64_w _).trans hji16
      by_cases c17 : 0 ≤ (ji16)
      ·rw [if_pos c17] at H
       have c17b0 : decide (0 ≤ (ji16)) = true := decide_eq_true c17
       clear c17
       by_cases c18 : (ji16) < (x5_1.length : Int)
       ·rw [if_pos c18] at H
        have c18b0 : decide ((ji16) < (x5_1.length : Int)) = true := decide_eq_true c18
        clear c18
        replace H := Option.bind_eq_some_iff.mp H
        obtain ⟨t76016, A190, H⟩ := H
        replace H : (if (wrap64 (x76002000_1 - t76016)) = 1 then (if ((rd_T56 x5_1 (ji16)).f1) > 1 then (papermillref13_more.j1 k1 x5_1 ji16 (wrap64 (x76002000_1 - t76016)) (((rd_T56 x5_1 (ji16)).f2) != ((wrap64 (x76002000_1 - t76016)) == (-1))) x76002000_1 x76002001_1 x76002002_1 ((rd_T56 x5_1 (ji16)).f0) ((rd_T56 x5_1 (ji16)).f1) ((rd_T56 x5_1 (ji16)).f2)) else (papermillref13_more.j1 k1 x5_1 ji16 (wrap64 (x76002000_1 - t76016)) false x76002000_1 x76002001_1 x76002002_1 ((rd_T56 x5_1 (ji16)).f0) ((rd_T56 x5_1 (ji16)).f1) ((rd_T56 x5_1 (ji16)).f2))) else (if (wrap64 (x76002000_1 - t76016)) = (-1) then (if ((rd_T56 x5_1 (ji16)).f1) > 1 then (papermillref13_more.j1 k1 x5_1 ji16 (wrap64 (x76002000_1 - t76016)) (((rd_T56 x5_1 (ji16)).f2) != ((wrap64 (x76002000_1 - t76016)) == (-1))) x76002000_1 x76002001_1 x76002002_1 ((rd_T56 x5_1 (ji16)).f0) ((rd_T56 x5_1 (ji16)).f1) ((rd_T56 x5_1 (ji16)).f2)) else (papermillref13_more.j1 k1 x5_1 ji16 (wrap64 (x76002000_1 - t76016)) false x76002000_1 x76002001_1 x76002002_1 ((rd_T56 x5_1 (ji16)).f0) ((rd_T56 x5_1 (ji16)).f1) ((rd_T56 x5_1 (ji16)).f2))) else (papermillref13_more.j1 k1 x5_1 ji16 (wrap64 (x76002000_1 - t76016)) true x76002000_1 x76002001_1 x76002002_1 ((rd_T56 x5_1 (ji16)).f0) ((rd_T56 x5_1 (ji16)).f1) ((rd_T56 x5_1 (ji16)).f2)))) = some r := H
        have A19 := Aside0.mk A190
        clear A190
        have HC20 := Aside0.mk H
        clear H
        have hcz21_0 : wr.cell? ⟨gb76001, 0, none⟩ = some (.int .i64 x76002000_1) := (blk_cell BK76001.out 0).trans rfl
        have hcz21_1 : wr.cell? ⟨gb76001, 1, none⟩ = some (.int .i64 x76002001_1) := (blk_cell BK76001.out 1).trans rfl
        have hcz21_2 : wr.cell? ⟨gb76001, 2, none⟩ = some (.bool x76002002_1) := (blk_cell BK76001.out 2).trans rfl
        have hfz21_0 := blk_frozen BK76001.out 0
        have hfz21_1 := blk_frozen BK76001.out 1
        have hfz21_2 := blk_frozen BK76001.out 2
        obtain ⟨Ao22, co22, eo22⟩ := Kd.R_slice HO_5.out
        subst eo22
        have p76014 : 0 ≤ ((ji16) : Int) := of_decide_eq_true (by assumption)
        have q76014 : (ji16) < (x5_1.length : Int) := of_decide_eq_true (by assumption)
        obtain ⟨ad76014, e76014, hx76014_0, hx76014_1, hx76014_2⟩ := at_T56 (Kd.R_reads' HO_5.out).2.2 (ji16) p76014 q76014
        cases e76014
        replace p76014 := eq_true p76014
        replace q76014 := eq_true q76014
        try go_wp2_with (first | ((with_reducible refine gate_dst (N := 7) rfl ?_); refine box_event ?hg (N := 7) ?hd (cs := #[.int .i64 0, .int .i64 0, .bool false]) (t := 56) ?hr ?_; (case hd => rfl); (case hg => rfl); (case hr => first | (go_simp; done) | (go_simp; rfl)); intro gb76015 hg w23 hbox hb; have n0_ := Aside0.mk (Kd.R_below (Kd.R_elderB (HO_5.out) gb76015 (Nat.le_of_eq hg.symm)) hb); have n1_ := Aside0.mk (blk_below (g := gb76001) (o := .cells #[.int .i64 x76002000_1, .int .i64 x76002001_1, .bool x76002002_1] 56 (0, 0)) (BK76001.out) hb); have n2_ := Aside0.mk (below_step (by repeat (first | exact HB.out | apply below_alloc | apply pw_below_drewN | apply below_drew1 | refine below_set ?_ GE76001.out)) hb); have n3_ := Aside0.mk (hbox); have n4_ := Aside0.mk ((by rw [hg]; exact (below_size (by repeat (first | exact HB.out | apply below_alloc | apply pw_below_drewN | apply below_drew1 | refine below_set ?_ GE76001.out))) : w.heap.size ≤ gb76015)); have n5_ := Aside0.mk ((by rw [hg]; exact (below_size (by repeat (first | exact HB.out | apply below_alloc | apply pw_below_drewN | apply below_drew1 | refine below_set ?_ GE76001.out))) : w.heap.size ≤ gb76015)); have n6_ := Aside0.mk ((by rw [hg]; exact Nat.ne_of_lt (blk_lt (g := gb76001) (o := .cells #[.int .i64 x76002000_1, .int .i64 x76002001_1, .bool x76002002_1] 56 (0, 0)) (BK76001.out)) : gb76001 ≠ gb76015)); have n7_ := Aside0.mk ((by rw [hg]; exact Nat.ne_of_gt (blk_lt (g := gb76001) (o := .cells #[.int .i64 x76002000_1, .int .i64 x76002001_1, .bool x76002002_1] 56 (0, 0)) (BK76001.out)) : gb76015 ≠ gb76001)); clear HO_5; clear BK76001; clear HB; have HO_5 := n0_; have BK76001 := n1_; have HB := n2_; have BK76015 := n3_; have GW76015 := n4_; have GE76015 := n5_; have NB76001_76015 := n6_; have NB76015_76001 := n7_; clear n0_ n1_ n2_ n3_ n4_ n5_ n6_ n7_; clear hb hbox hg; have hnb24 := NB76015_76001.out; have hnc24 := NB76001_76015.out; have hcz25_0 : w23.cell? ⟨gb76015, 0, none⟩ = some (.int .i64 0) := (blk_cell BK76015.out 0).trans rfl; have hcz25_1 : w23.cell? ⟨gb76015, 1, none⟩ = some (.int .i64 0) := (blk_cell BK76015.out 1).trans rfl; have hcz25_2 : w23.cell? ⟨gb76015, 2, none⟩ = some (.bool false) := (blk_cell BK76015.out 2).trans rfl; have hfz25_0 := blk_frozen BK76015.out 0; have hfz25_1 := blk_frozen BK76015.out 1; have hfz25_2 := blk_frozen BK76015.out 2))
        have n0_ : Aside0 (Kd.R k56 56 (((w23.setCell ⟨gb76015, 0, none⟩ (.int .i64 ((rd_T56 x5_1 (ji16)).f0))).setCell ⟨gb76015, 1, none⟩ (.int .i64 ((rd_T56 x5_1 (ji16)).f1))).setCell ⟨gb76015, 2, none⟩ (.bool ((rd_T56 x5_1 (ji16)).f2))) w.heap.size (fun k_ => k_ ≠ gb76001 ∧ k_ ≠ gb76015) (.slice (some ad76014) x5_1.length co22) x5_1) := ⟨by exact Kd.R_mono (Kd.R_far (p := ⟨gb76015, 2, none⟩) (Kd.R_far (p := ⟨gb76015, 1, none⟩) (Kd.R_far (p := ⟨gb76015, 0, none⟩) (Kd.R_mono HO_5.out (fun k_ hk => (⟨hk, hk.2⟩ : _ ∧ k_ ≠ gb76015))) (fun _ hk => hk.2) (.int .i64 ((rd_T56 x5_1 (ji16)).f0))) (fun _ hk => hk.2) (.int .i64 ((rd_T56 x5_1 (ji16)).f1))) (fun _ hk => hk.2) (.bool ((rd_T56 x5_1 (ji16)).f2))) (fun _ hk => ⟨hk.1.1, hk.1.2⟩)⟩
        have n1_ : Aside0 ((((w23.setCell ⟨gb76015, 0, none⟩ (.int .i64 ((rd_T56 x5_1 (ji16)).f0))).setCell ⟨gb76015, 1, none⟩ (.int .i64 ((rd_T56 x5_1 (ji16)).f1))).setCell ⟨gb76015, 2, none⟩ (.bool ((rd_T56 x5_1 (ji16)).f2))).heap[gb76001]? = some (.cells #[.int .i64 x76002000_1, .int .i64 x76002001_1, .bool x76002002_1] 56 (0, 0))) := ⟨by refine blk_far ?_ NB76001_76015.out _; refine blk_far ?_ NB76001_76015.out _; refine blk_far ?_ NB76001_76015.out _; exact BK76001.out⟩
        have n2_ : Aside0 ((((w23.setCell ⟨gb76015, 0, none⟩ (.int .i64 ((rd_T56 x5_1 (ji16)).f0))).setCell ⟨gb76015, 1, none⟩ (.int .i64 ((rd_T56 x5_1 (ji16)).f1))).setCell ⟨gb76015, 2, none⟩ (.bool ((rd_T56 x5_1 (ji16)).f2))).heap[gb76015]? = some (.cells #[.int .i64 ((rd_T56 x5_1 (ji16)).f0), .int .i64 ((rd_T56 x5_1 (ji16)).f1), .bool ((rd_T56 x5_1 (ji16)).f2)] 56 (0, 0))) := ⟨by refine blk_put (cs := #[.int .i64 ((rd_T56 x5_1 (ji16)).f0), .int .i64 ((rd_T56 x5_1 (ji16)).f1), .bool false]) ?_ 2 _ rfl; refine blk_put (cs := #[.int .i64 ((rd_T56 x5_1 (ji16)).f0), .int .i64 0, .bool false]) ?_ 1 _ rfl; refine blk_put (cs := #[.int .i64 0, .int .i64 0, .bool false]) ?_ 0 _ rfl; exact BK76015.out⟩
        have n3_ : Aside0 (Below w.heap.size w (((w23.setCell ⟨gb76015, 0, none⟩ (.int .i64 ((rd_T56 x5_1 (ji16)).f0))).setCell ⟨gb76015, 1, none⟩ (.int .i64 ((rd_T56 x5_1 (ji16)).f1))).setCell ⟨gb76015, 2, none⟩ (.bool ((rd_T56 x5_1 (ji16)).f2)))) := ⟨by repeat (first | exact HB.out | apply below_alloc | apply pw_below_drewN | apply below_drew1 | refine below_set ?_ GE76001.out | refine below_set ?_ GE76015.out)⟩
        (try clear HO_5)
        (try clear BK76001)
        (try clear BK76015)
        (try clear HB)
        generalize (((w23.setCell ⟨gb76015, 0, none⟩ (.int .i64 ((rd_T56 x5_1 (ji16)).f0))).setCell ⟨gb76015, 1, none⟩ (.int .i64 ((rd_T56 x5_1 (ji16)).f1))).setCell ⟨gb76015, 2, none⟩ (.bool ((rd_T56 x5_1 (ji16)).f2))) = w26 at n0_ n1_ n2_ n3_ ⊢
        have HO_5 := n0_
        have BK76001 := n1_
        have BK76015 := n2_
        have HB := n3_
        clear n0_ n1_ n2_ n3_
        have n0_ := Aside0.mk (Kd.R_drew HO_5.out)
        have n1_ := Aside0.mk (blk_drew BK76001.out)
        have n2_ := Aside0.mk (blk_drew BK76015.out)
        have n3_ := Aside0.mk (below_drew1 HB.out)
        clear HO_5
        clear BK76001
        clear BK76015
        clear HB
        have HO_5 := n0_
        have BK76001 := n1_
        have BK76015 := n2_
        have HB := n3_
        clear n0_ n1_ n2_ n3_
        refine start_ (n := 9) (S := fun w' => w'.cell? ⟨gb76001, 0, none⟩ = some (.int .i64 x76002000_1) ∧ w'.cell? ⟨gb76001, 1, none⟩ = some (.int .i64 x76002001_1) ∧ w'.cell? ⟨gb76001, 2, none⟩ = some (.bool x76002002_1) ∧ w'.cell? ⟨gb76015, 0, none⟩ = some (.int .i64 ((rd_T56 x5_1 (ji16)).f0)) ∧ w'.cell? ⟨gb76015, 1, none⟩ = some (.int .i64 ((rd_T56 x5_1 (ji16)).f1)) ∧ w'.cell? ⟨gb76015, 2, none⟩ = some (.bool ((rd_T56 x5_1 (ji16)).f2))) (ds := []) #[false, false, false, false, false, false, false, false, false] (by kernel_rfl) rfl rfl ⟨(blk_cell BK76001.out 0).trans rfl, (blk_cell BK76001.out 1).trans rfl, (blk_cell BK76001.out 2).trans rfl, (blk_cell BK76015.out 0).trans rfl, (blk_cell BK76015.out 1).trans rfl, (blk_cell BK76015.out 2).trans rfl⟩ (fun hHeld => ?_); refine with_tabW papermillref13_more.tab7 papermillref13_more.bits7 (fun HT_ HW_ => ?_)
        generalize w26.drew = w27 at HO_5 BK76001 BK76015 HB hHeld ⊢
        refine pure_ (i := 0) (N := some 32) (v := ?_) (a' := ?_) #[true, false, false, false, false, false, false, false, false] rfl rfl (any_of HT_.out (by kernel_rfl)) (fun _ _ _ h => h) (Or.inl ⟨by rfl, ?_⟩) ?_ ?_
        rotate_left
        ·intro w'
         go_simp
         with_reducible rfl
        rotate_left
        ·simp only [Act.put, List.setIfInBounds_toArray, List.set_cons_zero, List.set_cons_succ, i64_w, i32_w]
         rfl
        refine pure_ (i := 3) (N := some 35) (v := ?_) (a' := ?_) #[true, false, false, true, false, false, false, false, false] rfl rfl (any_of HT_.out (by kernel_rfl)) (fun _ _ _ h => h) (Or.inl ⟨by rfl, ?_⟩) ?_ ?_
        rotate_left
        ·intro w'
         go_simp
         with_reducible rfl
        rotate_left
        ·simp only [Act.put, List.setIfInBounds_toArray, List.set_cons_zero, List.set_cons_succ, i64_w, i32_w]
         rfl
        refine take_ (i := 1) (N := some 33) (v := ?_) (a' := ?_) #[true, true, false, true, false, false, false, false, false] rfl rfl (take_ofW HT_.out HW_.out (by kernel_rfl)) (fun _ _ _ h => h) (Or.inl ⟨by rfl, ?_⟩) hHeld ?_ ?_
        rotate_left
        ·rintro w' ⟨s0, s1, s2, s3, s4, s5⟩
         go_simp
         with_reducible rfl
        rotate_left
        ·simp only [Act.put, List.setIfInBounds_toArray, List.set_cons_zero, List.set_cons_succ, i64_w, i32_w]
         rfl
        refine take_ (i := 2) (N := some 34) (v := ?_) (a' := ?_) #[true, true, true, true, false, false, false, false, false] rfl rfl (take_ofW HT_.out HW_.out (by kernel_rfl)) (fun _ _ _ h => h) (Or.inl ⟨by rfl, ?_⟩) hHeld ?_ ?_
        rotate_left
        ·rintro w' ⟨s0, s1, s2, s3, s4, s5⟩
         go_simp
         with_reducible rfl
        rotate_left
        ·simp only [Act.put, List.setIfInBounds_toArray, List.set_cons_zero, List.set_cons_succ, i64_w, i32_w]
         rfl
        refine take_ (i := 4) (N := some 36) (v := ?_) (a' := ?_) #[true, true, true, true, true, false, false, false, false] rfl rfl (take_ofW HT_.out HW_.out (by kernel_rfl)) (fun _ _ _ h => h) (Or.inl ⟨by rfl, ?_⟩) hHeld ?_ ?_
        rotate_left
        ·rintro w' ⟨s0, s1, s2, s3, s4, s5⟩
         go_simp
         with_reducible rfl
        rotate_left
        ·simp only [Act.put, List.setIfInBounds_toArray, List.set_cons_zero, List.set_cons_succ, i64_w, i32_w]
         rfl
        refine pure_ (i := 5) (N := some 37) (v := ?_) (a' := ?_) #[true, true, true, true, true, true, false, false, false] rfl rfl (any_of HT_.out (by kernel_rfl)) (fun _ _ _ h => h) (Or.inl ⟨by rfl, ?_⟩) ?_ ?_
        rotate_left
        ·intro w'
         go_simp
         with_reducible rfl
        rotate_left
        ·simp only [Act.put, List.setIfInBounds_toArray, List.set_cons_zero, List.set_cons_succ, i64_w, i32_w]
         rfl
        refine one_ (i := 6) (N := some 38) #[true, true, true, true, true, true, true, false, false] rfl rfl (one_of HT_.out (by kernel_rfl)) (by decide) (fun K hK => ?_)
        refine goes_ Try.func83 (by kernel_rfl) rfl #[.agg #[.int .i64 ((rd_T56 x5_1 (ji16)).f0), .int .i64 ((rd_T56 x5_1 (ji16)).f1), .bool ((rd_T56 x5_1 (ji16)).f2)], .int .i64 (wrap64 (((rd_T56 x5_1 (ji16)).f1) - 1))] (by rfl) rfl rfl (by (try simp only [List.map_toArray, List.map_cons, List.map_nil]); first | done | (simp only [hji16]; rfl) | rfl | (simp only [List.length_drop, List.length_take]; rfl)) ?_
        with_reducible refine (papermillref13_image.calls ((rd_T56 x5_1 (ji16)).f0) ((rd_T56 x5_1 (ji16)).f1) ((rd_T56 x5_1 (ji16)).f2) (wrap64 (((rd_T56 x5_1 (ji16)).f1) - 1)) t76016 _ A19.out).mono ?_
        rintro e w28 ⟨rfl, hb⟩
        refine ⟨_, rfl, ?_⟩
        have n0_ := Aside0.mk (Kd.R_below (HO_5.out) hb)
        have n1_ := Aside0.mk (blk_below (g := gb76001) (o := .cells #[.int .i64 x76002000_1, .int .i64 x76002001_1, .bool x76002002_1] 56 (0, 0)) (BK76001.out) hb)
        have n2_ := Aside0.mk (blk_below (g := gb76015) (o := .cells #[.int .i64 ((rd_T56 x5_1 (ji16)).f0), .int .i64 ((rd_T56 x5_1 (ji16)).f1), .bool ((rd_T56 x5_1 (ji16)).f2)] 56 (0, 0)) (BK76015.out) hb)
        have n3_ := Aside0.mk (below_step (by repeat (first | exact HB.out | apply below_alloc | apply pw_below_drewN | apply below_drew1 | refine below_set ?_ GE76001.out | refine below_set ?_ GE76015.out)) hb)
        clear HO_5
        clear BK76001
        clear BK76015
        clear HB
        have HO_5 := n0_
        have BK76001 := n1_
        have BK76015 := n2_
        have HB := n3_
        clear n0_ n1_ n2_ n3_
        (try clear hb)
        (try clear hb2)
        (try clear hk)
        (try clear hi)
        refine hK.out _ _ ⟨(blk_cell BK76001.out 0).trans rfl, (blk_cell BK76001.out 1).trans rfl, (blk_cell BK76001.out 2).trans rfl, (blk_cell BK76015.out 0).trans rfl, (blk_cell BK76015.out 1).trans rfl, (blk_cell BK76015.out 2).trans rfl⟩ (fun hHeld => ?_)
        clear hK K
        refine norm_ (a' := ?_) ?_ ?_
        rotate_left
        ·show Act.put _ (some 38) _ = _
         simp only [Act.put, List.setIfInBounds_toArray, List.set_cons_zero, List.set_cons_succ, i64_w, i32_w]
         rfl
        refine pure_ (i := 7) (N := some 39) (v := ?_) (a' := ?_) #[true, true, true, true, true, true, true, true, false] rfl rfl (any_of HT_.out (by kernel_rfl)) (fun _ _ _ h => h) (Or.inl ⟨by rfl, ?_⟩) ?_ ?_
        rotate_left
        ·intro w'
         go_simp
         with_reducible rfl
        rotate_left
        ·simp only [Act.put, List.setIfInBounds_toArray, List.set_cons_zero, List.set_cons_succ, i64_w, i32_w]
         rfl
        refine pure_ (i := 8) (N := some 8) (v := ?_) (a' := ?_) #[true, true, true, true, true, true, true, true, true] rfl rfl (any_of HT_.out (by kernel_rfl)) (fun _ _ _ h => h) (Or.inl ⟨by rfl, ?_⟩) ?_ ?_
        rotate_left
        ·intro w'
         go_simp
         with_reducible rfl
        rotate_left
        ·simp only [Act.put, List.setIfInBounds_toArray, List.set_cons_zero, List.set_cons_succ, i64_w, i32_w]
         rfl
        refine done_ (done_of HT_.out (by kernel_rfl)) ?_
        go_upto_region 8 with (fail)
        go_cut [57] (fun v57 wc => ∃ (kq : Nat) (x57_19 : Bool), v57 = .bool x57_19 ∧ Aside0 (papermillref13_more.j1 kq x5_1 ji16 (wrap64 (x76002000_1 - t76016)) x57_19 x76002000_1 x76002001_1 x76002002_1 ((rd_T56 x5_1 (ji16)).f0) ((rd_T56 x5_1 (ji16)).f1) ((rd_T56 x5_1 (ji16)).f2) = some r) ∧ Aside0 (kq ≤ k1) ∧ Aside0 (Kd.R k56 56 wc w.heap.size (fun k_ => k_ ≠ gb76001 ∧ k_ ≠ gb76015) (.slice (some ad76014) x5_1.length co22) x5_1) ∧ Aside0 (wc.heap[gb76001]? = some (.cells #[.int .i64 x76002000_1, .int .i64 x76002001_1, .bool x76002002_1] 56 (0, 0))) ∧ Aside0 (wc.heap[gb76015]? = some (.cells #[.int .i64 ((rd_T56 x5_1 (ji16)).f0), .int .i64 ((rd_T56 x5_1 (ji16)).f1), .bool ((rd_T56 x5_1 (ji16)).f2)] 56 (0, 0))) ∧ Aside0 (Below w.heap.size w wc))
        case first =>
         have H := HC20.out
         clear HC20
         by_cases c29 : (wrap64 (x76002000_1 - t76016)) = 1
         ·rw [if_pos c29] at H
          have c29b0 : ((wrap64 (x76002000_1 - t76016)) == 1) = true := beq_iff_eq.mpr c29
          have c29b1 : ((wrap64 (x76002000_1 - t76016)) != 1) = false := bne_eq_false_iff_eq.mpr c29
          clear c29
          (first | rw [c29b0] | (simp only [i64_w, i32_w]; rw [c29b0]) | skip)
          by_cases c30 : ((rd_T56 x5_1 (ji16)).f1) > 1
          ·rw [if_pos c30] at H
           have c30b0 : decide (1 < ((rd_T56 x5_1 (ji16)).f1)) = true := decide_eq_true c30
           clear c30
           have H' := Aside0.mk H
           clear H
           have hnb31 := NB76015_76001.out
           have hnc31 := NB76001_76015.out
           have hcz32_0 : w28.cell? ⟨gb76015, 0, none⟩ = some (.int .i64 ((rd_T56 x5_1 (ji16)).f0)) := (blk_cell BK76015.out 0).trans rfl
           have hcz32_1 : w28.cell? ⟨gb76015, 1, none⟩ = some (.int .i64 ((rd_T56 x5_1 (ji16)).f1)) := (blk_cell BK76015.out 1).trans rfl
           have hcz32_2 : w28.cell? ⟨gb76015, 2, none⟩ = some (.bool ((rd_T56 x5_1 (ji16)).f2)) := (blk_cell BK76015.out 2).trans rfl
           have hfz32_0 := blk_frozen BK76015.out 0
           have hfz32_1 := blk_frozen BK76015.out 1
           have hfz32_2 := blk_frozen BK76015.out 2
           go_wp2
           go_meet
           case rel => exact ⟨_, ((((rd_T56 x5_1 (ji16)).f2) != ((wrap64 (x76002000_1 - t76016)) == (-1)))), (by first | rfl | (simp; done) | (simp only [← hji16] <;> (first | rfl | (simp; done))) | (simp [*]; done)), H', ⟨by have := HK1.out; first | omega | exact Nat.le_refl _⟩, ⟨HO_5.out⟩, ⟨BK76001.out⟩, ⟨BK76015.out⟩, ⟨by repeat (first | exact HB.out | apply below_alloc | apply pw_below_drewN | apply below_drew1 | refine below_set ?_ GE76001.out | refine below_set ?_ GE76015.out)⟩⟩
          ·rw [if_neg c30] at H
           have c30b0 : decide (1 < ((rd_T56 x5_1 (ji16)).f1)) = false := decide_eq_false c30
           clear c30
           have H' := Aside0.mk H
           clear H
           have hnb33 := NB76015_76001.out
           have hnc33 := NB76001_76015.out
           have hcz34_0 : w28.cell? ⟨gb76015, 0, none⟩ = some (.int .i64 ((rd_T56 x5_1 (ji16)).f0)) := (blk_cell BK76015.out 0).trans rfl
           have hcz34_1 : w28.cell? ⟨gb76015, 1, none⟩ = some (.int .i64 ((rd_T56 x5_1 (ji16)).f1)) := (blk_cell BK76015.out 1).trans rfl
           have hcz34_2 : w28.cell? ⟨gb76015, 2, none⟩ = some (.bool ((rd_T56 x5_1 (ji16)).f2)) := (blk_cell BK76015.out 2).trans rfl
           have hfz34_0 := blk_frozen BK76015.out 0
           have hfz34_1 := blk_frozen BK76015.out 1
           have hfz34_2 := blk_frozen BK76015.out 2
           go_wp2
           go_meet
           case rel => exact ⟨_, (false), (by first | rfl | (simp; done) | (simp [*]; done)), H', ⟨by have := HK1.out; first | omega | exact Nat.le_refl _⟩, ⟨HO_5.out⟩, ⟨BK76001.out⟩, ⟨BK76015.out⟩, ⟨by repeat (first | exact HB.out | apply below_alloc | apply pw_below_drewN | apply below_drew1 | refine below_set ?_ GE76001.out | refine below_set ?_ GE76015.out)⟩⟩
         ·rw [if_neg c29] at H
          have c29b0 : ((wrap64 (x76002000_1 - t76016)) == 1) = false := beq_eq_false_iff_ne.mpr c29
          have c29b1 : ((wrap64 (x76002000_1 - t76016)) != 1) = true := bne_iff_ne.mpr c29
          (first | rw [c29b0] | (simp only [i64_w, i32_w]; rw [c29b0]) | skip)
          by_cases c35 : (wrap64 (x76002000_1 - t76016)) = (-1)
          ·rw [if_pos c35] at H
           have c35b0 : ((wrap64 (x76002000_1 - t76016)) == (-1)) = true := beq_iff_eq.mpr c35
           have c35b1 : ((wrap64 (x76002000_1 - t76016)) != (-1)) = false := bne_eq_false_iff_eq.mpr c35
           clear c35
           by_cases c36 : ((rd_T56 x5_1 (ji16)).f1) > 1
           ·rw [if_pos c36] at H
            have c36b0 : decide (1 < ((rd_T56 x5_1 (ji16)).f1)) = true := decide_eq_true c36
            clear c36
            have H' := Aside0.mk H
            clear H
            have hnb37 := NB76015_76001.out
            have hnc37 := NB76001_76015.out
            have hcz38_0 : w28.cell? ⟨gb76015, 0, none⟩ = some (.int .i64 ((rd_T56 x5_1 (ji16)).f0)) := (blk_cell BK76015.out 0).trans rfl
            have hcz38_1 : w28.cell? ⟨gb76015, 1, none⟩ = some (.int .i64 ((rd_T56 x5_1 (ji16)).f1)) := (blk_cell BK76015.out 1).trans rfl
            have hcz38_2 : w28.cell? ⟨gb76015, 2, none⟩ = some (.bool ((rd_T56 x5_1 (ji16)).f2)) := (blk_cell BK76015.out 2).trans rfl
            have hfz38_0 := blk_frozen BK76015.out 0
            have hfz38_1 := blk_frozen BK76015.out 1
            have hfz38_2 := blk_frozen BK76015.out 2
            go_wp2
            go_meet
            case rel => exact ⟨_, ((((rd_T56 x5_1 (ji16)).f2) != ((wrap64 (x76002000_1 - t76016)) == (-1)))), (by first | rfl | (simp; done) | (simp only [← hji16] <;> (first | rfl | (simp; done))) | (simp [*]; done)), H', ⟨by have := HK1.out; first | omega | exact Nat.le_refl _⟩, ⟨HO_5.out⟩, ⟨BK76001.out⟩, ⟨BK76015.out⟩, ⟨by repeat (first | exact HB.out | apply below_alloc | apply pw_below_drewN | apply below_drew1 | refine below_set ?_ GE76001.out | refine below_set ?_ GE76015.out)⟩⟩
           ·rw [if_neg c36] at H
            have c36b0 : decide (1 < ((rd_T56 x5_1 (ji16)).f1)) = false := decide_eq_false c36
            clear c36
            have H' := Aside0.mk H
            clear H
            have hnb39 := NB76015_76001.out
            have hnc39 := NB76001_76015.out
            have hcz40_0 : w28.cell? ⟨gb76015, 0, none⟩ = some (.int .i64 ((rd_T56 x5_1 (ji16)).f0)) := (blk_cell BK76015.out 0).trans rfl
            have hcz40_1 : w28.cell? ⟨gb76015, 1, none⟩ = some (.int .i64 ((rd_T56 x5_1 (ji16)).f1)) := (blk_cell BK76015.out 1).trans rfl
            have hcz40_2 : w28.cell? ⟨gb76015, 2, none⟩ = some (.bool ((rd_T56 x5_1 (ji16)).f2)) := (blk_cell BK76015.out 2).trans rfl
            have hfz40_0 := blk_frozen BK76015.out 0
            have hfz40_1 := blk_frozen BK76015.out 1
            have hfz40_2 := blk_frozen BK76015.out 2
            go_wp2
            go_meet
            case rel => exact ⟨_, (false), (by first | rfl | (simp; done) | (simp [*]; done)), H', ⟨by have := HK1.out; first | omega | exact Nat.le_refl _⟩, ⟨HO_5.out⟩, ⟨BK76001.out⟩, ⟨BK76015.out⟩, ⟨by repeat (first | exact HB.out | apply below_alloc | apply pw_below_drewN | apply below_drew1 | refine below_set ?_ GE76001.out | refine below_set ?_ GE76015.out)⟩⟩
          ·rw [if_neg c35] at H
           have c35b0 : ((wrap64 (x76002000_1 - t76016)) == (-1)) = false := beq_eq_false_iff_ne.mpr c35
           have c35b1 : ((wrap64 (x76002000_1 - t76016)) != (-1)) = true := bne_iff_ne.mpr c35
           have H' := Aside0.mk H
           clear H
           go_wp2
           go_meet
           case rel => exact ⟨_, (true), (by first | rfl | (simp; done) | (simp [*]; done)), H', ⟨by have := HK1.out; first | omega | exact Nat.le_refl _⟩, ⟨HO_5.out⟩, ⟨BK76001.out⟩, ⟨BK76015.out⟩, ⟨by repeat (first | exact HB.out | apply below_alloc | apply pw_below_drewN | apply below_drew1 | refine below_set ?_ GE76001.out | refine below_set ?_ GE76015.out)⟩⟩
        case rest =>
         clear HC20
         try clear c1
         try clear c2
         try clear p2
         try clear c3
         try clear p6
         try clear c7
         try clear p7
         try clear q7
         try clear hx7
         try clear c8
         try clear c8b0
         try clear c9
         try clear c9b0
         try clear c11
         try clear c17
         try clear c17b0
         try clear c18
         try clear c18b0
         try clear c24
         try clear c29
         try clear c29b0
         try clear c29b1
         try clear c30
         try clear c30b0
         try clear c31
         try clear c33
         try clear c35
         try clear c35b0
         try clear c35b1
         try clear c36
         try clear c36b0
         try clear c37
         try clear c39
         try clear hcz12_0
         try clear hcz12_1
         try clear hcz12_2
         try clear hcz21_0
         try clear hcz21_1
         try clear hcz21_2
         try clear hcz25_0
         try clear hcz25_1
         try clear hcz25_2
         try clear hcz32_0
         try clear hcz32_1
         try clear hcz32_2
         try clear hcz34_0
         try clear hcz34_1
         try clear hcz34_2
         try clear hcz38_0
         try clear hcz38_1
         try clear hcz38_2
         try clear hcz40_0
         try clear hcz40_1
         try clear hcz40_2
         try clear hfz12_0
         try clear hfz12_1
         try clear hfz12_2
         try clear hfz21_0
         try clear hfz21_1
         try clear hfz21_2
         try clear hfz25_0
         try clear hfz25_1
         try clear hfz25_2
         try clear hfz32_0
         try clear hfz32_1
         try clear hfz32_2
         try clear hfz34_0
         try clear hfz34_1
         try clear hfz34_2
         try clear hfz38_0
         try clear hfz38_1
         try clear hfz38_2
         try clear hfz40_0
         try clear hfz40_1
         try clear hfz40_2
         try clear hx76014_0
         try clear hx76014_1
         try clear hx76014_2
         try clear p2
         try clear p76014
         try clear q76014
         obtain ⟨kq, x57_19, rfl, HA, HJ19, HO_5, BK76001, BK76015, HB⟩ := hcut
         cases kq with
         | zero => exact absurd HA.out (by simp [papermillref13_more.j1])
         | succ kj19 =>
          have H := HA.out
          clear HA
          simp only [papermillref13_more.j1] at H
          by_cases c41 : x57_19 = true
          ·subst c41
           have H1 : ((papermillref13_cut.f x76002000_1 x76002001_1 x76002002_1 0 x76002001_1).bind fun bt76017 => (if x5_1.length < 5864062014805 then (some (x5_1 ++ [(⟨bt76017.1, bt76017.2.1, bt76017.2.2⟩ : S56)])) else (none))) = some r := by rw [if_pos rfl] at H; exact H
           clear H
           have H := H1
           clear H1
           replace H := Option.bind_eq_some_iff.mp H
           obtain ⟨⟨t76017, t76018, t76019⟩, A420, H⟩ := H
           replace H : (if x5_1.length < 5864062014805 then (some (x5_1 ++ [(⟨t76017, t76018, t76019⟩ : S56)])) else (none)) = some r := H
           have A42 := Aside0.mk A420
           clear A420
           by_cases c43 : x5_1.length < 5864062014805
           ·rw [if_pos c43] at H
            have LMc43 := Aside0.mk c43
            clear c43
            obtain ⟨y76020, hy76020⟩ : ∃ y_ : List (S56), y_ = (x5_1 ++ [(⟨t76017, t76018, t76019⟩ : S56)]) := ⟨_, rfl⟩
            replace H : (some y76020) = some r := by first | (rw [hy76020]; with_reducible exact H) | (have H2_ := (Option.bind_some _ _).symm.trans H; rw [hy76020]; with_reducible exact H2_) | (have H2_ := (Option.bind_some _ _).symm.trans H; with_reducible exact H2_) | with_reducible exact H | (rw [hy76020]; exact H) | exact H
            have Ny76020 := Aside0.mk hy76020
            clear hy76020
            obtain rfl := Option.some.inj H
            have hnb44 := NB76001_76015.out
            have hnc44 := NB76015_76001.out
            have hcz45_0 : wc.cell? ⟨gb76001, 0, none⟩ = some (.int .i64 x76002000_1) := (blk_cell BK76001.out 0).trans rfl
            have hcz45_1 : wc.cell? ⟨gb76001, 1, none⟩ = some (.int .i64 x76002001_1) := (blk_cell BK76001.out 1).trans rfl
            have hcz45_2 : wc.cell? ⟨gb76001, 2, none⟩ = some (.bool x76002002_1) := (blk_cell BK76001.out 2).trans rfl
            have hfz45_0 := blk_frozen BK76001.out 0
            have hfz45_1 := blk_frozen BK76001.out 1
            have hfz45_2 := blk_frozen BK76001.out 2
            go_wp2_with (first | ((with_reducible refine gate_callee (f := 82) rfl ?_); refine goesL_ (some 62) rfl rfl Try.func82 (by kernel_rfl) rfl #[.agg #[.int .i64 x76002000_1, .int .i64 x76002001_1, .bool x76002002_1], .int .i64 0, .int .i64 x76002001_1] rfl (by (try simp only [List.map_toArray, List.map_cons, List.map_nil]); first | done | rfl | (simp only [List.length_drop, List.length_take]; rfl)) ?_; (with_reducible refine (papermillref13_cut.calls x76002000_1 x76002001_1 x76002002_1 0 x76002001_1 t76017 t76018 t76019 _ A42.out).mono ?_); rintro e w46 ⟨rfl, hb⟩; refine ⟨_, rfl, ?_⟩; have n0_ := Aside0.mk (Kd.R_below (HO_5.out) hb); have n1_ := Aside0.mk (blk_below (g := gb76001) (o := .cells #[.int .i64 x76002000_1, .int .i64 x76002001_1, .bool x76002002_1] 56 (0, 0)) (BK76001.out) hb); have n2_ := Aside0.mk (blk_below (g := gb76015) (o := .cells #[.int .i64 ((rd_T56 x5_1 (ji16)).f0), .int .i64 ((rd_T56 x5_1 (ji16)).f1), .bool ((rd_T56 x5_1 (ji16)).f2)] 56 (0, 0)) (BK76015.out) hb); have n3_ := Aside0.mk (below_step (by repeat (first | exact HB.out | apply below_alloc | apply pw_below_drewN | apply below_drew1 | refine below_set ?_ GE76001.out | refine below_set ?_ GE76015.out)) hb); clear HO_5; clear BK76001; clear BK76015; clear HB; have HO_5 := n0_; have BK76001 := n1_; have BK76015 := n2_; have HB := n3_; clear n0_ n1_ n2_ n3_; (try clear hb); (try clear hb2); (try clear hk); (try clear hi)) | ((with_reducible refine gate_builtin (b := .append) (xs := #[.tmp 58, .tmp 63]) rfl ?_); at_builtin; refine Kd.R_append k56 (w0 := w) w.heap.size rfl (.tmp 58) (.tmp 63) 32 56 (.agg #[(.int .i64 0), (.int .i64 0), (.bool false)]) 24 rfl Try.underlying32 info56 rfl (by decide) (by omega) (.slice (some ad76014) x5_1.length co22) x5_1 (⟨t76017, t76018, t76019⟩ : S56) [.int .i64 t76017, .int .i64 t76018, .bool t76019] (fun k_ => k_ ≠ gb76001 ∧ k_ ≠ gb76015) (fun _ => False) rfl rfl ?aP (fun _ hk => hk.elim) ?aF ?aO ?aB ?aS ?aL ?_; (case aP => exact k56_mkM _ _ _ (⟨t76017, t76018, t76019⟩ : S56)); (case aB => exact (by repeat (first | exact HB.out | apply below_alloc | apply pw_below_drewN | apply below_drew1 | refine below_set ?_ GE76001.out | refine below_set ?_ GE76015.out))); (case aF => exact (fun k_ hk => ⟨Kd.freshB (g := gb76001) (o := .cells #[.int .i64 x76002000_1, .int .i64 x76002001_1, .bool x76002002_1] 56 (0, 0)) (BK76001.out) k_ hk, Kd.freshB (g := gb76015) (o := .cells #[.int .i64 ((rd_T56 x5_1 (ji16)).f0), .int .i64 ((rd_T56 x5_1 (ji16)).f1), .bool ((rd_T56 x5_1 (ji16)).f2)] 56 (0, 0)) (BK76015.out) k_ hk⟩)); (case aO => exact (HO_5.out)); (case aS => exact (below_size (by repeat (first | exact HB.out | apply below_alloc | apply pw_below_drewN | apply below_drew1 | refine below_set ?_ GE76001.out | refine below_set ?_ GE76015.out)))); (case aL => have := LMc43.out; omega); intro v76021 w47 ho hb hg hat; rw [← Ny76020.out] at ho; have n0_ := Aside0.mk (blk_grown (g := gb76001) (o := .cells #[.int .i64 x76002000_1, .int .i64 x76002001_1, .bool x76002002_1] 56 (0, 0)) (BK76001.out) hg (Kd.R_away HO_5.out (fun _ hk => hk.1))); have n1_ := Aside0.mk (blk_grown (g := gb76015) (o := .cells #[.int .i64 ((rd_T56 x5_1 (ji16)).f0), .int .i64 ((rd_T56 x5_1 (ji16)).f1), .bool ((rd_T56 x5_1 (ji16)).f2)] 56 (0, 0)) (BK76015.out) hg (Kd.R_away HO_5.out (fun _ hk => hk.2))); have n2_ := Aside0.mk (hb); have n3_ := Aside0.mk (ho); clear BK76001; clear BK76015; clear HB; clear HO_5; have BK76001 := n0_; have BK76015 := n1_; have HB := n2_; have HO76022 := n3_; clear n0_ n1_ n2_ n3_; clear ho hb hg hat))
            go_ret
            exact ⟨_, by first | rfl | (simp [errW_none, errW_some] <;> rfl) | (simp only [← hji16]; first | rfl | (simp [errW_none, errW_some] <;> rfl)) | (simp [*, errW_none, errW_some] <;> rfl), by exact Kd.R_mono HO76022.out (fun _ hk => trivial), by repeat (first | exact HB.out | apply below_alloc | apply pw_below_drewN | apply below_drew1 | refine below_set ?_ GE76001.out | refine below_set ?_ GE76015.out)⟩
           ·rw [if_neg c43] at H
            exact absurd H (by simp)
          ·replace c41 := Bool.eq_false_iff.mpr c41
           subst c41
           have H1 : (if x76002001_1 > 1 then (papermillref13_more.j2 kj19 x5_1 ji16 (wrap64 (x76002000_1 - t76016)) x76002001_1 (x76002002_1 != ((wrap64 (x76002000_1 - t76016)) == (-1))) x76002000_1 x76002001_1 x76002002_1 ((rd_T56 x5_1 (ji16)).f0) ((rd_T56 x5_1 (ji16)).f1) ((rd_T56 x5_1 (ji16)).f2)) else (papermillref13_more.j2 kj19 x5_1 ji16 (wrap64 (x76002000_1 - t76016)) x76002001_1 false x76002000_1 x76002001_1 x76002002_1 ((rd_T56 x5_1 (ji16)).f0) ((rd_T56 x5_1 (ji16)).f1) ((rd_T56 x5_1 (ji16)).f2))) = some r := by rw [if_neg (show ¬ (false = true) by decide)] at H; first | exact H | simpa using H
           clear H
           have H := H1
           clear H1
           have HC48 := Aside0.mk H
           clear H
           have hnb49 := NB76001_76015.out
           have hnc49 := NB76015_76001.out
           have hcz50_0 : wc.cell? ⟨gb76001, 0, none⟩ = some (.int .i64 x76002000_1) := (blk_cell BK76001.out 0).trans rfl
           have hcz50_1 : wc.cell? ⟨gb76001, 1, none⟩ = some (.int .i64 x76002001_1) := (blk_cell BK76001.out 1).trans rfl
           have hcz50_2 : wc.cell? ⟨gb76001, 2, none⟩ = some (.bool x76002002_1) := (blk_cell BK76001.out 2).trans rfl
           have hfz50_0 := blk_frozen BK76001.out 0
           have hfz50_1 := blk_frozen BK76001.out 1
           have hfz50_2 := blk_frozen BK76001.out 2
           go_upto_region 11 with (fail)
           go_cut [75] (fun v75 wc => ∃ (kq : Nat) (x75_47 : Bool), v75 = .bool x75_47 ∧ Aside0 (papermillref13_more.j2 kq x5_1 ji16 (wrap64 (x76002000_1 - t76016)) x76002001_1 x75_47 x76002000_1 x76002001_1 x76002002_1 ((rd_T56 x5_1 (ji16)).f0) ((rd_T56 x5_1 (ji16)).f1) ((rd_T56 x5_1 (ji16)).f2) = some r) ∧ Aside0 (kq ≤ kj19) ∧ Aside0 (Kd.R k56 56 wc w.heap.size (fun k_ => k_ ≠ gb76001 ∧ k_ ≠ gb76015) (.slice (some ad76014) x5_1.length co22) x5_1) ∧ Aside0 (wc.heap[gb76001]? = some (.cells #[.int .i64 x76002000_1, .int .i64 x76002001_1, .bool x76002002_1] 56 (0, 0))) ∧ Aside0 (wc.heap[gb76015]? = some (.cells #[.int .i64 ((rd_T56 x5_1 (ji16)).f0), .int .i64 ((rd_T56 x5_1 (ji16)).f1), .bool ((rd_T56 x5_1 (ji16)).f2)] 56 (0, 0))) ∧ Aside0 (Below w.heap.size w wc))
           case first =>
            have H := HC48.out
            clear HC48
            by_cases c51 : x76002001_1 > 1
            ·rw [if_pos c51] at H
             have c51b0 : decide (1 < x76002001_1) = true := decide_eq_true c51
             clear c51
             (first | rw [c51b0] | (simp only [i64_w, i32_w]; rw [c51b0]) | skip)
             have H' := Aside0.mk H
             clear H
             have hnb52 := NB76001_76015.out
             have hnc52 := NB76015_76001.out
             have hcz53_0 : wc.cell? ⟨gb76001, 0, none⟩ = some (.int .i64 x76002000_1) := (blk_cell BK76001.out 0).trans rfl
             have hcz53_1 : wc.cell? ⟨gb76001, 1, none⟩ = some (.int .i64 x76002001_1) := (blk_cell BK76001.out 1).trans rfl
             have hcz53_2 : wc.cell? ⟨gb76001, 2, none⟩ = some (.bool x76002002_1) := (blk_cell BK76001.out 2).trans rfl
             have hfz53_0 := blk_frozen BK76001.out 0
             have hfz53_1 := blk_frozen BK76001.out 1
             have hfz53_2 := blk_frozen BK76001.out 2
             go_wp2
             go_meet
             case rel => exact ⟨_, ((x76002002_1 != ((wrap64 (x76002000_1 - t76016)) == (-1)))), (by first | rfl | (simp; done) | (simp [*]; done)), H', ⟨by have := HK1.out; have := HJ19.out; first | omega | exact Nat.le_refl _⟩, ⟨HO_5.out⟩, ⟨BK76001.out⟩, ⟨BK76015.out⟩, ⟨by repeat (first | exact HB.out | apply below_alloc | apply pw_below_drewN | apply below_drew1 | refine below_set ?_ GE76001.out | refine below_set ?_ GE76015.out)⟩⟩
            ·rw [if_neg c51] at H
             have c51b0 : decide (1 < x76002001_1) = false := decide_eq_false c51
             clear c51
             (first | rw [c51b0] | (simp only [i64_w, i32_w]; rw [c51b0]) | skip)
             have H' := Aside0.mk H
             clear H
             go_wp2
             go_meet
             case rel => exact ⟨_, (false), (by first | rfl | (simp; done) | (simp [*]; done)), H', ⟨by have := HK1.out; have := HJ19.out; first | omega | exact Nat.le_refl _⟩, ⟨HO_5.out⟩, ⟨BK76001.out⟩, ⟨BK76015.out⟩, ⟨by repeat (first | exact HB.out | apply below_alloc | apply pw_below_drewN | apply below_drew1 | refine below_set ?_ GE76001.out | refine below_set ?_ GE76015.out)⟩⟩
           case rest =>
            clear HC48
            try clear c1
            try clear c2
            try clear p2
            try clear c3
            try clear c4
            try clear c5
            try clear p6
            try clear c7
            try clear p7
            try clear q7
            try clear hx7
            try clear c8
            try clear c8b0
            try clear c9
            try clear c9b0
            try clear c11
            try clear c17
            try clear c17b0
            try clear c18
            try clear c18b0
            try clear c24
            try clear c29
            try clear c29b0
            try clear c29b1
            try clear c30
            try clear c30b0
            try clear c31
            try clear c33
            try clear c35
            try clear c35b0
            try clear c35b1
            try clear c36
            try clear c36b0
            try clear c37
            try clear c39
            try clear c41
            try clear c43
            try clear c44
            try clear c49
            try clear c51
            try clear c51b0
            try clear c52
            try clear hcz12_0
            try clear hcz12_1
            try clear hcz12_2
            try clear hcz21_0
            try clear hcz21_1
            try clear hcz21_2
            try clear hcz25_0
            try clear hcz25_1
            try clear hcz25_2
            try clear hcz32_0
            try clear hcz32_1
            try clear hcz32_2
            try clear hcz34_0
            try clear hcz34_1
            try clear hcz34_2
            try clear hcz38_0
            try clear hcz38_1
            try clear hcz38_2
            try clear hcz40_0
            try clear hcz40_1
            try clear hcz40_2
            try clear hcz45_0
            try clear hcz45_1
            try clear hcz45_2
            try clear hcz50_0
            try clear hcz50_1
            try clear hcz50_2
            try clear hcz53_0
            try clear hcz53_1
            try clear hcz53_2
            try clear hfz12_0
            try clear hfz12_1
            try clear hfz12_2
            try clear hfz21_0
            try clear hfz21_1
            try clear hfz21_2
            try clear hfz25_0
            try clear hfz25_1
            try clear hfz25_2
            try clear hfz32_0
            try clear hfz32_1
            try clear hfz32_2
            try clear hfz34_0
            try clear hfz34_1
            try clear hfz34_2
            try clear hfz38_0
            try clear hfz38_1
            try clear hfz38_2
            try clear hfz40_0
            try clear hfz40_1
            try clear hfz40_2
            try clear hfz45_0
            try clear hfz45_1
            try clear hfz45_2
            try clear hfz50_0
            try clear hfz50_1
            try clear hfz50_2
            try clear hfz53_0
            try clear hfz53_1
            try clear hfz53_2
            try clear hx76014_0
            try clear hx76014_1
            try clear hx76014_2
            try clear p2
            try clear p6
            try clear p7
            try clear p76014
            try clear q7
            try clear q76014
            obtain ⟨kq, x75_47, rfl, HA, HJ47, HO_5, BK76001, BK76015, HB⟩ := hcut
            cases kq with
            | zero => exact absurd HA.out (by simp [papermillref13_more.j2])
            | succ kj47 =>
             have H := HA.out
             clear HA
             simp only [papermillref13_more.j2] at H
             by_cases c54 : x75_47 = true
             ·subst c54
              have H1 : (if 0 ≤ ji16 then (if ji16 < (x5_1.length : Int) then ((some (x5_1.set (ji16 : Int).toNat (⟨((rd_T56 x5_1 (ji16)).f0), wrap64 (((rd_T56 x5_1 (ji16)).f1) + 1), ((wrap64 (x76002000_1 - t76016)) == (-1))⟩ : S56) : List (S56))).bind fun y76023 => (if 1 = x76002001_1 then (some y76023) else ((papermillref13_cut.f x76002000_1 x76002001_1 x76002002_1 1 (wrap64 (x76002001_1 - 1))).bind fun bt76024 => (papermillref13_more.l0 kj47 y76023 bt76024.1 bt76024.2.1 bt76024.2.2)))) else (none)) else (none)) = some r := by rw [if_pos rfl] at H; exact H
              clear H
              have H := H1
              clear H1
              by_cases c55 : 0 ≤ ji16
              ·rw [if_pos c55] at H
               have c55b0 : decide (0 ≤ ji16) = true := decide_eq_true c55
               clear c55
               by_cases c56 : ji16 < (x5_1.length : Int)
               ·rw [if_pos c56] at H
                have c56b0 : decide (ji16 < (x5_1.length : Int)) = true := decide_eq_true c56
                clear c56
                obtain ⟨y76023, hy76023⟩ : ∃ y_ : List (S56), y_ = (x5_1.set (ji16 : Int).toNat (⟨((rd_T56 x5_1 (ji16)).f0), wrap64 (((rd_T56 x5_1 (ji16)).f1) + 1), ((wrap64 (x76002000_1 - t76016)) == (-1))⟩ : S56)) := ⟨_, rfl⟩
                replace H : (if 1 = x76002001_1 then (some y76023) else ((papermillref13_cut.f x76002000_1 x76002001_1 x76002002_1 1 (wrap64 (x76002001_1 - 1))).bind fun bt76024 => (papermillref13_more.l0 kj47 y76023 bt76024.1 bt76024.2.1 bt76024.2.2))) = some r := by first | (rw [hy76023]; with_reducible exact H) | (have H2_ := (Option.bind_some _ _).symm.trans H; rw [hy76023]; with_reducible exact H2_) | (have H2_ := (Option.bind_some _ _).symm.trans H; with_reducible exact H2_) | with_reducible exact H | (rw [hy76023]; exact H) | exact H
                have Ny76023 := Aside0.mk hy76023
                clear hy76023
                by_cases c58 : 1 = x76002001_1
                ·rw [if_pos c58] at H
                 have c58b0 : (1 == x76002001_1) = true := beq_iff_eq.mpr c58
                 have c58b1 : (1 != x76002001_1) = false := bne_eq_false_iff_eq.mpr c58
                 clear c58
                 obtain rfl := Option.some.inj H
                 have hnb59 := NB76015_76001.out
                 have hnc59 := NB76001_76015.out
                 have hcz60_0 : wc.cell? ⟨gb76015, 0, none⟩ = some (.int .i64 ((rd_T56 x5_1 (ji16)).f0)) := (blk_cell BK76015.out 0).trans rfl
                 have hcz60_1 : wc.cell? ⟨gb76015, 1, none⟩ = some (.int .i64 ((rd_T56 x5_1 (ji16)).f1)) := (blk_cell BK76015.out 1).trans rfl
                 have hcz60_2 : wc.cell? ⟨gb76015, 2, none⟩ = some (.bool ((rd_T56 x5_1 (ji16)).f2)) := (blk_cell BK76015.out 2).trans rfl
                 have hfz60_0 := blk_frozen BK76015.out 0
                 have hfz60_1 := blk_frozen BK76015.out 1
                 have hfz60_2 := blk_frozen BK76015.out 2
                 have p57 : 0 ≤ (ji16 : Int) := of_decide_eq_true (by assumption)
                 have q57 : (ji16 : Int) < ((x5_1.length : Int) : Int) := of_decide_eq_true (by assumption)
                 obtain ⟨go57, co57, eo57, gb57, gl57, cl57, HG57⟩ := Kd.R_form HO_5.out (by omega)
                 (first | cases eo57 | (injection eo57 with ea_ en_ ec_; (first | subst ea_ | (injection ea_ with ea_; subst ea_)); subst ec_; clear en_))
                 have GB57 := Aside0.mk gb57
                 have GG57 := Aside0.mk HG57
                 clear gb57 gl57 HG57
                 (first | simp only [add_plain] at hx76014_0 | skip)
                 (first | simp only [add_plain] at hx76014_1 | skip)
                 (first | simp only [add_plain] at hx76014_2 | skip)
                 obtain ⟨ce57, hcl57, hM57, hcc57, hfr57⟩ := Kd.R_elem HO_5.out z56 (ji16 : Int) p57 q57
                 obtain rfl := k56_openM hM57
                 have hx57_0 : wc.cell? ⟨go57, (ji16 : Int).toNat * 3, none⟩ = some (.int .i64 ((rd_T56 x5_1 ji16).f0)) := hcc57 0 _ rfl
                 have hx57_1 : wc.cell? ⟨go57, (ji16 : Int).toNat * 3 + 1, none⟩ = some (.int .i64 ((rd_T56 x5_1 ji16).f1)) := hcc57 1 _ rfl
                 have hx57_2 : wc.cell? ⟨go57, (ji16 : Int).toNat * 3 + 2, none⟩ = some (.bool ((rd_T56 x5_1 ji16).f2)) := hcc57 2 _ rfl
                 have hf57_0 : wc.frozen? ⟨go57, (ji16 : Int).toNat * 3, none⟩ = false := hfr57 0
                 have hf57_1 : wc.frozen? ⟨go57, (ji16 : Int).toNat * 3 + 1, none⟩ = false := hfr57 1
                 have hf57_2 : wc.frozen? ⟨go57, (ji16 : Int).toNat * 3 + 2, none⟩ = false := hfr57 2
                 clear hcl57 hcc57 hfr57 hM57
                 replace p57 := eq_true p57
                 replace q57 := eq_true q57
                 have HX61 := Aside0.mk (show Kd.R k56 56 wc w.heap.size (fun k_ => k_ ≠ gb76001 ∧ k_ ≠ gb76015) (.slice (some ⟨go57, 0, none⟩) x5_1.length co22) x5_1 from (HO_5.out))
                 obtain ⟨ce61, hcl61, hM61, hcc61, hfr61⟩ := Kd.R_elem HX61.out z56 (ji16 : Int) (of_decide_eq_true (by assumption)) (by have h_ : (ji16 : Int) < ((x5_1.length : Int) : Int) := of_decide_eq_true (by assumption); first | exact h_ | (have e_ := (Kd.R_reads' HO_5.out).1; omega) | simpa using h_)
                 obtain rfl := k56_openM hM61
                 have HP61 := Kd.R_seg HX61.out (ji16 : Int) (of_decide_eq_true (by assumption)) (by have h_ : (ji16 : Int) < ((x5_1.length : Int) : Int) := of_decide_eq_true (by assumption); first | exact h_ | (have e_ := (Kd.R_reads' HO_5.out).1; omega) | simpa using h_) (seg := [.int .i64 ((rd_T56 x5_1 (ji16)).f0), .int .i64 (wrap64 (((rd_T56 x5_1 (ji16)).f1) + 1)), .bool ((wrap64 (x76002000_1 - t76016)) == (-1))]) (j := 0) hcl61 hcc61 (show 3 ≤ 3 from by decide) (x' := (⟨((rd_T56 x5_1 (ji16)).f0), wrap64 (((rd_T56 x5_1 (ji16)).f1) + 1), ((wrap64 (x76002000_1 - t76016)) == (-1))⟩ : S56)) (k56_mkM _ _ _ (⟨((rd_T56 x5_1 (ji16)).f0), wrap64 (((rd_T56 x5_1 (ji16)).f1) + 1), ((wrap64 (x76002000_1 - t76016)) == (-1))⟩ : S56) ) (fun _ hk => hk)
                 have hx61_0 := hcc61 0 _ rfl
                 (try simp only [show (k56).sz = 3 from rfl, Nat.mul_one, Nat.add_zero] at hx61_0)
                 have hf61_0 := hfr61 0
                 (try simp only [show (k56).sz = 3 from rfl, Nat.mul_one, Nat.add_zero] at hf61_0)
                 have hx61_1 := hcc61 1 _ rfl
                 (try simp only [show (k56).sz = 3 from rfl, Nat.mul_one, Nat.add_zero] at hx61_1)
                 have hf61_1 := hfr61 1
                 (try simp only [show (k56).sz = 3 from rfl, Nat.mul_one, Nat.add_zero] at hf61_1)
                 have hx61_2 := hcc61 2 _ rfl
                 (try simp only [show (k56).sz = 3 from rfl, Nat.mul_one, Nat.add_zero] at hx61_2)
                 have hf61_2 := hfr61 2
                 (try simp only [show (k56).sz = 3 from rfl, Nat.mul_one, Nat.add_zero] at hf61_2)
                 clear hcl61 hcc61 hfr61 hM61
                 go_wp2_with (first | ((with_reducible refine gate_store (t := 56) (p := 87) rfl ?_); refine store_event (t := 56) (p := 87) (v := ?vo_w62) (w1 := (((wc.setCell ⟨go57, (ji16 : Int).toNat * 3, none⟩ (.int .i64 ((rd_T56 x5_1 (ji16)).f0))).setCell ⟨go57, (ji16 : Int).toNat * 3 + 1, none⟩ (.int .i64 (wrap64 (((rd_T56 x5_1 (ji16)).f1) + 1)))).setCell ⟨go57, (ji16 : Int).toNat * 3 + 2, none⟩ (.bool ((wrap64 (x76002000_1 - t76016)) == (-1))))) ?hg ?ho ?hn ?hr ?_; (case ho => rfl); (case hg => rfl); (case hn => rfl); (case hr => first | (go_simp; done) | (go_simp; rfl)); intro w62 hw; have hg : wc.grownBy w62 (some go57) := (by rw [hw]; exact HP61.2); have hp_ : Kd.R k56 56 w62 w.heap.size (fun k_ => k_ ≠ gb76001 ∧ k_ ≠ gb76015) (.slice (some ⟨go57, 0, none⟩) x5_1.length co22) y76023 := (by rw [hw, Ny76023.out]; exact HP61.1); clear HP61; have n0_ := Aside0.mk (hp_); have n1_ := Aside0.mk (blk_grown (g := gb76001) (o := .cells #[.int .i64 x76002000_1, .int .i64 x76002001_1, .bool x76002002_1] 56 (0, 0)) (BK76001.out) hg (Kd.R_away HO_5.out (fun _ hk => hk.1))); have n2_ := Aside0.mk (blk_grown (g := gb76015) (o := .cells #[.int .i64 ((rd_T56 x5_1 (ji16)).f0), .int .i64 ((rd_T56 x5_1 (ji16)).f1), .bool ((rd_T56 x5_1 (ji16)).f2)] 56 (0, 0)) (BK76015.out) hg (Kd.R_away HO_5.out (fun _ hk => hk.2))); have n3_ := Aside0.mk ((by rw [hw]; exact below_set (below_set (below_set (HB.out) GB57.out) GB57.out) GB57.out : Below w.heap.size w w62)); clear HO_5; clear BK76001; clear BK76015; clear HB; have HO_5 := n0_; have BK76001 := n1_; have BK76015 := n2_; have HB := n3_; clear n0_ n1_ n2_ n3_; clear hg hw hp_; have hcz63_0 : w62.cell? ⟨gb76001, 0, none⟩ = some (.int .i64 x76002000_1) := (blk_cell BK76001.out 0).trans rfl; have hcz63_1 : w62.cell? ⟨gb76001, 1, none⟩ = some (.int .i64 x76002001_1) := (blk_cell BK76001.out 1).trans rfl; have hcz63_2 : w62.cell? ⟨gb76001, 2, none⟩ = some (.bool x76002002_1) := (blk_cell BK76001.out 2).trans rfl; have hfz63_0 := blk_frozen BK76001.out 0; have hfz63_1 := blk_frozen BK76001.out 1; have hfz63_2 := blk_frozen BK76001.out 2))
                 go_ret
                 exact ⟨_, by first | rfl | (simp [errW_none, errW_some] <;> rfl) | (simp only [← hji16]; first | rfl | (simp [errW_none, errW_some] <;> rfl)) | (simp [*, errW_none, errW_some] <;> rfl), by exact Kd.R_mono HO_5.out (fun _ hk => trivial), by repeat (first | exact HB.out | apply below_alloc | apply pw_below_drewN | apply below_drew1 | refine below_set ?_ GE76001.out | refine below_set ?_ GE76015.out)⟩
                ·rw [if_neg c58] at H
                 have c58b0 : (1 == x76002001_1) = false := beq_eq_false_iff_ne.mpr c58
                 have c58b1 : (1 != x76002001_1) = true := bne_iff_ne.mpr c58
                 replace H := Option.bind_eq_some_iff.mp H
                 obtain ⟨⟨t76024, t76025, t76026⟩, A640, H⟩ := H
                 replace H : (papermillref13_more.l0 kj47 y76023 t76024 t76025 t76026) = some r := H
                 have A64 := Aside0.mk A640
                 clear A640
                 have H' := Aside0.mk H
                 clear H
                 have hnb65 := NB76015_76001.out
                 have hnc65 := NB76001_76015.out
                 have hcz66_0 : wc.cell? ⟨gb76015, 0, none⟩ = some (.int .i64 ((rd_T56 x5_1 (ji16)).f0)) := (blk_cell BK76015.out 0).trans rfl
                 have hcz66_1 : wc.cell? ⟨gb76015, 1, none⟩ = some (.int .i64 ((rd_T56 x5_1 (ji16)).f1)) := (blk_cell BK76015.out 1).trans rfl
                 have hcz66_2 : wc.cell? ⟨gb76015, 2, none⟩ = some (.bool ((rd_T56 x5_1 (ji16)).f2)) := (blk_cell BK76015.out 2).trans rfl
                 have hfz66_0 := blk_frozen BK76015.out 0
                 have hfz66_1 := blk_frozen BK76015.out 1
                 have hfz66_2 := blk_frozen BK76015.out 2
                 have p57 : 0 ≤ (ji16 : Int) := of_decide_eq_true (by assumption)
                 have q57 : (ji16 : Int) < ((x5_1.length : Int) : Int) := of_decide_eq_true (by assumption)
                 obtain ⟨go57, co57, eo57, gb57, gl57, cl57, HG57⟩ := Kd.R_form HO_5.out (by omega)
                 (first | cases eo57 | (injection eo57 with ea_ en_ ec_; (first | subst ea_ | (injection ea_ with ea_; subst ea_)); subst ec_; clear en_))
                 have GB57 := Aside0.mk gb57
                 have GG57 := Aside0.mk HG57
                 clear gb57 gl57 HG57
                 obtain ⟨ce57, hcl57, hM57, hcc57, hfr57⟩ := Kd.R_elem HO_5.out z56 (ji16 : Int) p57 q57
                 obtain rfl := k56_openM hM57
                 have hx57_0 : wc.cell? ⟨go57, (ji16 : Int).toNat * 3, none⟩ = some (.int .i64 ((rd_T56 x5_1 ji16).f0)) := hcc57 0 _ rfl
                 have hx57_1 : wc.cell? ⟨go57, (ji16 : Int).toNat * 3 + 1, none⟩ = some (.int .i64 ((rd_T56 x5_1 ji16).f1)) := hcc57 1 _ rfl
                 have hx57_2 : wc.cell? ⟨go57, (ji16 : Int).toNat * 3 + 2, none⟩ = some (.bool ((rd_T56 x5_1 ji16).f2)) := hcc57 2 _ rfl
                 have hf57_0 : wc.frozen? ⟨go57, (ji16 : Int).toNat * 3, none⟩ = false := hfr57 0
                 have hf57_1 : wc.frozen? ⟨go57, (ji16 : Int).toNat * 3 + 1, none⟩ = false := hfr57 1
                 have hf57_2 : wc.frozen? ⟨go57, (ji16 : Int).toNat * 3 + 2, none⟩ = false := hfr57 2
                 clear hcl57 hcc57 hfr57 hM57
                 replace p57 := eq_true p57
                 replace q57 := eq_true q57
                 have HX67 := Aside0.mk (show Kd.R k56 56 wc w.heap.size (fun k_ => k_ ≠ gb76001 ∧ k_ ≠ gb76015) (.slice (some ⟨go57, 0, none⟩) x5_1.length co22) x5_1 from (HO_5.out))
                 obtain ⟨ce67, hcl67, hM67, hcc67, hfr67⟩ := Kd.R_elem HX67.out z56 (ji16 : Int) (of_decide_eq_true (by assumption)) (by have h_ : (ji16 : Int) < ((x5_1.length : Int) : Int) := of_decide_eq_true (by assumption); first | exact h_ | (have e_ := (Kd.R_reads' HO_5.out).1; omega) | simpa using h_)
                 obtain rfl := k56_openM hM67
                 have HP67 := Kd.R_seg HX67.out (ji16 : Int) (of_decide_eq_true (by assumption)) (by have h_ : (ji16 : Int) < ((x5_1.length : Int) : Int) := of_decide_eq_true (by assumption); first | exact h_ | (have e_ := (Kd.R_reads' HO_5.out).1; omega) | simpa using h_) (seg := [.int .i64 ((rd_T56 x5_1 (ji16)).f0), .int .i64 (wrap64 (((rd_T56 x5_1 (ji16)).f1) + 1)), .bool ((wrap64 (x76002000_1 - t76016)) == (-1))]) (j := 0) hcl67 hcc67 (show 3 ≤ 3 from by decide) (x' := (⟨((rd_T56 x5_1 (ji16)).f0), wrap64 (((rd_T56 x5_1 (ji16)).f1) + 1), ((wrap64 (x76002000_1 - t76016)) == (-1))⟩ : S56)) (k56_mkM _ _ _ (⟨((rd_T56 x5_1 (ji16)).f0), wrap64 (((rd_T56 x5_1 (ji16)).f1) + 1), ((wrap64 (x76002000_1 - t76016)) == (-1))⟩ : S56) ) (fun _ hk => hk)
                 have hx67_0 := hcc67 0 _ rfl
                 (try simp only [show (k56).sz = 3 from rfl, Nat.mul_one, Nat.add_zero] at hx67_0)
                 have hf67_0 := hfr67 0
                 (try simp only [show (k56).sz = 3 from rfl, Nat.mul_one, Nat.add_zero] at hf67_0)
                 have hx67_1 := hcc67 1 _ rfl
                 (try simp only [show (k56).sz = 3 from rfl, Nat.mul_one, Nat.add_zero] at hx67_1)
                 have hf67_1 := hfr67 1
                 (try simp only [show (k56).sz = 3 from rfl, Nat.mul_one, Nat.add_zero] at hf67_1)
                 have hx67_2 := hcc67 2 _ rfl
                 (try simp only [show (k56).sz = 3 from rfl, Nat.mul_one, Nat.add_zero] at hx67_2)
                 have hf67_2 := hfr67 2
                 (try simp only [show (k56).sz = 3 from rfl, Nat.mul_one, Nat.add_zero] at hf67_2)
                 clear hcl67 hcc67 hfr67 hM67
                 go_wp2_with (first | ((with_reducible refine gate_store (t := 56) (p := 87) rfl ?_); refine store_event (t := 56) (p := 87) (v := ?vo_w68) (w1 := (((wc.setCell ⟨go57, (ji16 : Int).toNat * 3, none⟩ (.int .i64 ((rd_T56 x5_1 (ji16)).f0))).setCell ⟨go57, (ji16 : Int).toNat * 3 + 1, none⟩ (.int .i64 (wrap64 (((rd_T56 x5_1 (ji16)).f1) + 1)))).setCell ⟨go57, (ji16 : Int).toNat * 3 + 2, none⟩ (.bool ((wrap64 (x76002000_1 - t76016)) == (-1))))) ?hg ?ho ?hn ?hr ?_; (case ho => rfl); (case hg => rfl); (case hn => rfl); (case hr => first | (go_simp; done) | (go_simp; rfl)); intro w68 hw; have hg : wc.grownBy w68 (some go57) := (by rw [hw]; exact HP67.2); have hp_ : Kd.R k56 56 w68 w.heap.size (fun k_ => k_ ≠ gb76001 ∧ k_ ≠ gb76015) (.slice (some ⟨go57, 0, none⟩) x5_1.length co22) y76023 := (by rw [hw, Ny76023.out]; exact HP67.1); clear HP67; have n0_ := Aside0.mk (hp_); have n1_ := Aside0.mk (blk_grown (g := gb76001) (o := .cells #[.int .i64 x76002000_1, .int .i64 x76002001_1, .bool x76002002_1] 56 (0, 0)) (BK76001.out) hg (Kd.R_away HO_5.out (fun _ hk => hk.1))); have n2_ := Aside0.mk (blk_grown (g := gb76015) (o := .cells #[.int .i64 ((rd_T56 x5_1 (ji16)).f0), .int .i64 ((rd_T56 x5_1 (ji16)).f1), .bool ((rd_T56 x5_1 (ji16)).f2)] 56 (0, 0)) (BK76015.out) hg (Kd.R_away HO_5.out (fun _ hk => hk.2))); have n3_ := Aside0.mk ((by rw [hw]; exact below_set (below_set (below_set (HB.out) GB57.out) GB57.out) GB57.out : Below w.heap.size w w68)); clear HO_5; clear BK76001; clear BK76015; clear HB; have HO_5 := n0_; have BK76001 := n1_; have BK76015 := n2_; have HB := n3_; clear n0_ n1_ n2_ n3_; clear hg hw hp_; have hcz69_0 : w68.cell? ⟨gb76001, 0, none⟩ = some (.int .i64 x76002000_1) := (blk_cell BK76001.out 0).trans rfl; have hcz69_1 : w68.cell? ⟨gb76001, 1, none⟩ = some (.int .i64 x76002001_1) := (blk_cell BK76001.out 1).trans rfl; have hcz69_2 : w68.cell? ⟨gb76001, 2, none⟩ = some (.bool x76002002_1) := (blk_cell BK76001.out 2).trans rfl; have hfz69_0 := blk_frozen BK76001.out 0; have hfz69_1 := blk_frozen BK76001.out 1; have hfz69_2 := blk_frozen BK76001.out 2) | ((with_reducible refine gate_callee (f := 82) rfl ?_); refine goesL_ (some 99) rfl rfl Try.func82 (by kernel_rfl) rfl #[.agg #[.int .i64 x76002000_1, .int .i64 x76002001_1, .bool x76002002_1], .int .i64 1, .int .i64 (wrap64 (x76002001_1 - 1))] rfl (by (try simp only [List.map_toArray, List.map_cons, List.map_nil]); first | done | rfl | (simp only [List.length_drop, List.length_take]; rfl)) ?_; (with_reducible refine (papermillref13_cut.calls x76002000_1 x76002001_1 x76002002_1 1 (wrap64 (x76002001_1 - 1)) t76024 t76025 t76026 _ A64.out).mono ?_); rintro e w70 ⟨rfl, hb⟩; refine ⟨_, rfl, ?_⟩; have n0_ := Aside0.mk (Kd.R_below (HO_5.out) hb); have n1_ := Aside0.mk (blk_below (g := gb76001) (o := .cells #[.int .i64 x76002000_1, .int .i64 x76002001_1, .bool x76002002_1] 56 (0, 0)) (BK76001.out) hb); have n2_ := Aside0.mk (blk_below (g := gb76015) (o := .cells #[.int .i64 ((rd_T56 x5_1 (ji16)).f0), .int .i64 ((rd_T56 x5_1 (ji16)).f1), .bool ((rd_T56 x5_1 (ji16)).f2)] 56 (0, 0)) (BK76015.out) hb); have n3_ := Aside0.mk (below_step (by repeat (first | exact HB.out | apply below_alloc | apply pw_below_drewN | apply below_drew1 | refine below_set ?_ GE76001.out | refine below_set ?_ GE76015.out)) hb); clear HO_5; clear BK76001; clear BK76015; clear HB; have HO_5 := n0_; have BK76001 := n1_; have BK76015 := n2_; have HB := n3_; clear n0_ n1_ n2_ n3_; (try clear hb); (try clear hb2); (try clear hk); (try clear hi); have hcz71_0 : w70.cell? ⟨gb76001, 0, none⟩ = some (.int .i64 x76002000_1) := (blk_cell BK76001.out 0).trans rfl; have hcz71_1 : w70.cell? ⟨gb76001, 1, none⟩ = some (.int .i64 x76002001_1) := (blk_cell BK76001.out 1).trans rfl; have hcz71_2 : w70.cell? ⟨gb76001, 2, none⟩ = some (.bool x76002002_1) := (blk_cell BK76001.out 2).trans rfl; have hfz71_0 := blk_frozen BK76001.out 0; have hfz71_1 := blk_frozen BK76001.out 1; have hfz71_2 := blk_frozen BK76001.out 2))
                 go_roundg kj47
                 case measure => have := HK1.out; have := HJ19.out; have := HJ47.out; omega
                 case rel => exact ⟨(y76023), (t76024), (t76025), (t76026), H', ⟨by have := HK1.out; have := HJ19.out; have := HJ47.out; omega⟩, ⟨by exact Kd.R_mono (Kd.R_far (p := ⟨gb76001, 2, none⟩) (Kd.R_far (p := ⟨gb76001, 1, none⟩) (Kd.R_far (p := ⟨gb76001, 0, none⟩) (Kd.R_mono HO_5.out (fun k_ hk => (⟨hk, hk.1⟩ : _ ∧ k_ ≠ gb76001))) (fun _ hk => hk.2) (.int .i64 t76024)) (fun _ hk => hk.2) (.int .i64 t76025)) (fun _ hk => hk.2) (.bool t76026)) (fun _ hk => hk.1.1)⟩, ⟨by refine blk_put (cs := #[.int .i64 t76024, .int .i64 t76025, .bool x76002002_1]) ?_ 2 _ rfl; refine blk_put (cs := #[.int .i64 t76024, .int .i64 x76002001_1, .bool x76002002_1]) ?_ 1 _ rfl; refine blk_put (cs := #[.int .i64 x76002000_1, .int .i64 x76002001_1, .bool x76002002_1]) ?_ 0 _ rfl; exact BK76001.out⟩, ⟨by repeat (first | exact HB.out | apply below_alloc | apply pw_below_drewN | apply below_drew1 | refine below_set ?_ GE76001.out | refine below_set ?_ GE76015.out)⟩⟩
               ·rw [if_neg c56] at H
                exact absurd H (by simp)
              ·rw [if_neg c55] at H
               exact absurd H (by simp)
             ·replace c54 := Bool.eq_false_iff.mpr c54
              subst c54
              have H1 : (if 0 ≤ ji16 then (if ji16 < (x5_1.length : Int) then ((some (x5_1.set (ji16 : Int).toNat (⟨((rd_T56 x5_1 (ji16)).f0), wrap64 (((rd_T56 x5_1 (ji16)).f1) + x76002001_1), ((wrap64 (x76002000_1 - t76016)) == (-1))⟩ : S56) : List (S56))).bind fun y76027 => (if x76002001_1 = x76002001_1 then (some y76027) else ((papermillref13_cut.f x76002000_1 x76002001_1 x76002002_1 x76002001_1 (wrap64 (x76002001_1 - x76002001_1))).bind fun bt76028 => (papermillref13_more.l0 kj47 y76027 bt76028.1 bt76028.2.1 bt76028.2.2)))) else (none)) else (none)) = some r := by rw [if_neg (show ¬ (false = true) by decide)] at H; first | exact H | simpa using H
              clear H
              have H := H1
              clear H1
              by_cases c72 : 0 ≤ ji16
              ·rw [if_pos c72] at H
               have c72b0 : decide (0 ≤ ji16) = true := decide_eq_true c72
               clear c72
               by_cases c73 : ji16 < (x5_1.length : Int)
               ·rw [if_pos c73] at H
                have c73b0 : decide (ji16 < (x5_1.length : Int)) = true := decide_eq_true c73
                clear c73
                obtain ⟨y76027, hy76027⟩ : ∃ y_ : List (S56), y_ = (x5_1.set (ji16 : Int).toNat (⟨((rd_T56 x5_1 (ji16)).f0), wrap64 (((rd_T56 x5_1 (ji16)).f1) + x76002001_1), ((wrap64 (x76002000_1 - t76016)) == (-1))⟩ : S56)) := ⟨_, rfl⟩
                replace H : (if x76002001_1 = x76002001_1 then (some y76027) else ((papermillref13_cut.f x76002000_1 x76002001_1 x76002002_1 x76002001_1 (wrap64 (x76002001_1 - x76002001_1))).bind fun bt76028 => (papermillref13_more.l0 kj47 y76027 bt76028.1 bt76028.2.1 bt76028.2.2))) = some r := by first | (rw [hy76027]; with_reducible exact H) | (have H2_ := (Option.bind_some _ _).symm.trans H; rw [hy76027]; with_reducible exact H2_) | (have H2_ := (Option.bind_some _ _).symm.trans H; with_reducible exact H2_) | with_reducible exact H | (rw [hy76027]; exact H) | exact H
                have Ny76027 := Aside0.mk hy76027
                clear hy76027
                by_cases c75 : x76002001_1 = x76002001_1
                ·rw [if_pos c75] at H
                 have c75b0 : (x76002001_1 == x76002001_1) = true := beq_iff_eq.mpr c75
                 have c75b1 : (x76002001_1 != x76002001_1) = false := bne_eq_false_iff_eq.mpr c75
                 clear c75
                 obtain rfl := Option.some.inj H
                 have hnb76 := NB76015_76001.out
                 have hnc76 := NB76001_76015.out
                 have hcz77_0 : wc.cell? ⟨gb76015, 0, none⟩ = some (.int .i64 ((rd_T56 x5_1 (ji16)).f0)) := (blk_cell BK76015.out 0).trans rfl
                 have hcz77_1 : wc.cell? ⟨gb76015, 1, none⟩ = some (.int .i64 ((rd_T56 x5_1 (ji16)).f1)) := (blk_cell BK76015.out 1).trans rfl
                 have hcz77_2 : wc.cell? ⟨gb76015, 2, none⟩ = some (.bool ((rd_T56 x5_1 (ji16)).f2)) := (blk_cell BK76015.out 2).trans rfl
                 have hfz77_0 := blk_frozen BK76015.out 0
                 have hfz77_1 := blk_frozen BK76015.out 1
                 have hfz77_2 := blk_frozen BK76015.out 2
                 have p74 : 0 ≤ (ji16 : Int) := of_decide_eq_true (by assumption)
                 have q74 : (ji16 : Int) < ((x5_1.length : Int) : Int) := of_decide_eq_true (by assumption)
                 obtain ⟨go74, co74, eo74, gb74, gl74, cl74, HG74⟩ := Kd.R_form HO_5.out (by omega)
                 (first | cases eo74 | (injection eo74 with ea_ en_ ec_; (first | subst ea_ | (injection ea_ with ea_; subst ea_)); subst ec_; clear en_))
                 have GB74 := Aside0.mk gb74
                 have GG74 := Aside0.mk HG74
                 clear gb74 gl74 HG74
                 obtain ⟨ce74, hcl74, hM74, hcc74, hfr74⟩ := Kd.R_elem HO_5.out z56 (ji16 : Int) p74 q74
                 obtain rfl := k56_openM hM74
                 have hx74_0 : wc.cell? ⟨go74, (ji16 : Int).toNat * 3, none⟩ = some (.int .i64 ((rd_T56 x5_1 ji16).f0)) := hcc74 0 _ rfl
                 have hx74_1 : wc.cell? ⟨go74, (ji16 : Int).toNat * 3 + 1, none⟩ = some (.int .i64 ((rd_T56 x5_1 ji16).f1)) := hcc74 1 _ rfl
                 have hx74_2 : wc.cell? ⟨go74, (ji16 : Int).toNat * 3 + 2, none⟩ = some (.bool ((rd_T56 x5_1 ji16).f2)) := hcc74 2 _ rfl
                 have hf74_0 : wc.frozen? ⟨go74, (ji16 : Int).toNat * 3, none⟩ = false := hfr74 0
                 have hf74_1 : wc.frozen? ⟨go74, (ji16 : Int).toNat * 3 + 1, none⟩ = false := hfr74 1
                 have hf74_2 : wc.frozen? ⟨go74, (ji16 : Int).toNat * 3 + 2, none⟩ = false := hfr74 2
                 clear hcl74 hcc74 hfr74 hM74
                 replace p74 := eq_true p74
                 replace q74 := eq_true q74
                 have HX78 := Aside0.mk (show Kd.R k56 56 wc w.heap.size (fun k_ => k_ ≠ gb76001 ∧ k_ ≠ gb76015) (.slice (some ⟨go74, 0, none⟩) x5_1.length co22) x5_1 from (HO_5.out))
                 obtain ⟨ce78, hcl78, hM78, hcc78, hfr78⟩ := Kd.R_elem HX78.out z56 (ji16 : Int) (of_decide_eq_true (by assumption)) (by have h_ : (ji16 : Int) < ((x5_1.length : Int) : Int) := of_decide_eq_true (by assumption); first | exact h_ | (have e_ := (Kd.R_reads' HO_5.out).1; omega) | simpa using h_)
                 obtain rfl := k56_openM hM78
                 have HP78 := Kd.R_seg HX78.out (ji16 : Int) (of_decide_eq_true (by assumption)) (by have h_ : (ji16 : Int) < ((x5_1.length : Int) : Int) := of_decide_eq_true (by assumption); first | exact h_ | (have e_ := (Kd.R_reads' HO_5.out).1; omega) | simpa using h_) (seg := [.int .i64 ((rd_T56 x5_1 (ji16)).f0), .int .i64 (wrap64 (((rd_T56 x5_1 (ji16)).f1) + x76002001_1)), .bool ((wrap64 (x76002000_1 - t76016)) == (-1))]) (j := 0) hcl78 hcc78 (show 3 ≤ 3 from by decide) (x' := (⟨((rd_T56 x5_1 (ji16)).f0), wrap64 (((rd_T56 x5_1 (ji16)).f1) + x76002001_1), ((wrap64 (x76002000_1 - t76016)) == (-1))⟩ : S56)) (k56_mkM _ _ _ (⟨((rd_T56 x5_1 (ji16)).f0), wrap64 (((rd_T56 x5_1 (ji16)).f1) + x76002001_1), ((wrap64 (x76002000_1 - t76016)) == (-1))⟩ : S56) ) (fun _ hk => hk)
                 have hx78_0 := hcc78 0 _ rfl
                 (try simp only [show (k56).sz = 3 from rfl, Nat.mul_one, Nat.add_zero] at hx78_0)
                 have hf78_0 := hfr78 0
                 (try simp only [show (k56).sz = 3 from rfl, Nat.mul_one, Nat.add_zero] at hf78_0)
                 have hx78_1 := hcc78 1 _ rfl
                 (try simp only [show (k56).sz = 3 from rfl, Nat.mul_one, Nat.add_zero] at hx78_1)
                 have hf78_1 := hfr78 1
                 (try simp only [show (k56).sz = 3 from rfl, Nat.mul_one, Nat.add_zero] at hf78_1)
                 have hx78_2 := hcc78 2 _ rfl
                 (try simp only [show (k56).sz = 3 from rfl, Nat.mul_one, Nat.add_zero] at hx78_2)
                 have hf78_2 := hfr78 2
                 (try simp only [show (k56).sz = 3 from rfl, Nat.mul_one, Nat.add_zero] at hf78_2)
                 clear hcl78 hcc78 hfr78 hM78
                 go_wp2_with (first | ((with_reducible refine gate_store (t := 56) (p := 87) rfl ?_); refine store_event (t := 56) (p := 87) (v := ?vo_w79) (w1 := (((wc.setCell ⟨go74, (ji16 : Int).toNat * 3, none⟩ (.int .i64 ((rd_T56 x5_1 (ji16)).f0))).setCell ⟨go74, (ji16 : Int).toNat * 3 + 1, none⟩ (.int .i64 (wrap64 (((rd_T56 x5_1 (ji16)).f1) + x76002001_1)))).setCell ⟨go74, (ji16 : Int).toNat * 3 + 2, none⟩ (.bool ((wrap64 (x76002000_1 - t76016)) == (-1))))) ?hg ?ho ?hn ?hr ?_; (case ho => rfl); (case hg => rfl); (case hn => rfl); (case hr => first | (go_simp; done) | (go_simp; rfl)); intro w79 hw; have hg : wc.grownBy w79 (some go74) := (by rw [hw]; exact HP78.2); have hp_ : Kd.R k56 56 w79 w.heap.size (fun k_ => k_ ≠ gb76001 ∧ k_ ≠ gb76015) (.slice (some ⟨go74, 0, none⟩) x5_1.length co22) y76027 := (by rw [hw, Ny76027.out]; exact HP78.1); clear HP78; have n0_ := Aside0.mk (hp_); have n1_ := Aside0.mk (blk_grown (g := gb76001) (o := .cells #[.int .i64 x76002000_1, .int .i64 x76002001_1, .bool x76002002_1] 56 (0, 0)) (BK76001.out) hg (Kd.R_away HO_5.out (fun _ hk => hk.1))); have n2_ := Aside0.mk (blk_grown (g := gb76015) (o := .cells #[.int .i64 ((rd_T56 x5_1 (ji16)).f0), .int .i64 ((rd_T56 x5_1 (ji16)).f1), .bool ((rd_T56 x5_1 (ji16)).f2)] 56 (0, 0)) (BK76015.out) hg (Kd.R_away HO_5.out (fun _ hk => hk.2))); have n3_ := Aside0.mk ((by rw [hw]; exact below_set (below_set (below_set (HB.out) GB74.out) GB74.out) GB74.out : Below w.heap.size w w79)); clear HO_5; clear BK76001; clear BK76015; clear HB; have HO_5 := n0_; have BK76001 := n1_; have BK76015 := n2_; have HB := n3_; clear n0_ n1_ n2_ n3_; clear hg hw hp_; have hcz80_0 : w79.cell? ⟨gb76001, 0, none⟩ = some (.int .i64 x76002000_1) := (blk_cell BK76001.out 0).trans rfl; have hcz80_1 : w79.cell? ⟨gb76001, 1, none⟩ = some (.int .i64 x76002001_1) := (blk_cell BK76001.out 1).trans rfl; have hcz80_2 : w79.cell? ⟨gb76001, 2, none⟩ = some (.bool x76002002_1) := (blk_cell BK76001.out 2).trans rfl; have hfz80_0 := blk_frozen BK76001.out 0; have hfz80_1 := blk_frozen BK76001.out 1; have hfz80_2 := blk_frozen BK76001.out 2))
                 go_ret
                 exact ⟨_, by first | rfl | (simp [errW_none, errW_some] <;> rfl) | (simp only [← hji16]; first | rfl | (simp [errW_none, errW_some] <;> rfl)) | (simp [*, errW_none, errW_some] <;> rfl), by exact Kd.R_mono HO_5.out (fun _ hk => trivial), by repeat (first | exact HB.out | apply below_alloc | apply pw_below_drewN | apply below_drew1 | refine below_set ?_ GE76001.out | refine below_set ?_ GE76015.out)⟩
                ·rw [if_neg c75] at H
                 exact absurd rfl c75
               ·rw [if_neg c73] at H
                exact absurd H (by simp)
              ·rw [if_neg c72] at H
               exact absurd H (by simp)
       ·rw [if_neg c18] at H
        exact absurd H (by simp)
      ·rw [if_neg c17] at H
       exact absurd H (by simp)
    ·rw [if_neg c8] at H
     have c8b0 : decide (0 < x76002001_1) = false := decide_eq_false c8
     clear c8
     obtain rfl := Option.some.inj H
     have hcz89_0 : wr.cell? ⟨gb76001, 0, none⟩ = some (.int .i64 x76002000_1) := (blk_cell BK76001.out 0).trans rfl
     have hcz89_1 : wr.cell? ⟨gb76001, 1, none⟩ = some (.int .i64 x76002001_1) := (blk_cell BK76001.out 1).trans rfl
     have hcz89_2 : wr.cell? ⟨gb76001, 2, none⟩ = some (.bool x76002002_1) := (blk_cell BK76001.out 2).trans rfl
     have hfz89_0 := blk_frozen BK76001.out 0
     have hfz89_1 := blk_frozen BK76001.out 1
     have hfz89_2 := blk_frozen BK76001.out 2
     go_wp2
     go_ret
     exact ⟨_, by first | rfl | (simp [errW_none, errW_some] <;> rfl) | (simp [*, errW_none, errW_some] <;> rfl), by exact Kd.R_mono HO_5.out (fun _ hk => trivial), by repeat (first | exact HB.out | apply below_alloc | apply pw_below_drewN | apply below_drew1 | refine below_set ?_ GE76001.out)⟩
 ·rw [if_neg c3] at H
  exact absurd H (by simp)

end Go.Proofs.Ytjkakgkiikjdmaa.G

namespace Go.Proofs.Ytjkakgkiikjdmaa.G
open Go.RowKit Go.Proofs.YtjkakgkiikjdmaaW.PrintWords Go.Proofs.YtjkakgkiikjdmaaW.PrintLast Go.Proofs.YtjkakgkiikjdmaaW.PrintMore
attribute [local go_sem] max2_int min2_int max_two min_two max_three min_three max_four min_four   -- for this text's walks alone
set_option linter.unusedVariables false
set_option linter.unusedSimpArgs false

def papermillref13_all.l0 : Nat → List (S56) → List (S56) → Int → Option ((List (S56)))
 | 0, _, _, _ => none
 | k + 1, x0, x3, x4 => if x4 < (x0.length : Int) then (if 0 ≤ x4 then ((papermillref13_more.f k x3 ((rd_T56 x0 x4).f0) ((rd_T56 x0 x4).f1) ((rd_T56 x0 x4).f2)).bind fun t62002 => (papermillref13_all.l0 k x0 t62002 (wrap64 (x4 + 1)))) else (none)) else (some x3)
def papermillref13_all.f (k : Nat) (l0 : List (S56)) : Option ((List (S56))) := papermillref13_all.l0 k l0 ([] : List (S56)) 0
theorem papermillref13_all.mono_l : ∀ k, (∀ y0 y1 y2, LeO (papermillref13_all.l0 k y0 y1 y2) (papermillref13_all.l0 (k + 1) y0 y1 y2))
 | 0 => fun _ _ _ r h => by simp [papermillref13_all.l0] at h
 | k + 1 => by
  have ih0 := papermillref13_all.mono_l k
  ·intro y0 y1 y2
   unfold papermillref13_all.l0
   repeat' first
   | (with_reducible exact ih0 _ _ _)
   | (with_reducible exact papermillref13_more.mono _ _ _ _ _)
   | (with_reducible exact LeO.refl _)
   | (with_reducible exact LeO.none _)
   | (with_reducible refine LeO.ite ?_ ?_)
   | (with_reducible refine LeO.bind ?_ (fun _ => ?_))
   | exact ih0 _ _ _
   | exact papermillref13_more.mono _ _ _ _ _
   | exact LeO.none _
   | refine LeO.ite ?_ ?_
   | refine LeO.bind ?_ (fun _ => ?_)
theorem papermillref13_all.mono : ∀ a0 k, LeO (papermillref13_all.f k a0) (papermillref13_all.f (k + 1) a0) := by
 intro a0 k
 have ih0 := papermillref13_all.mono_l k
 unfold papermillref13_all.f
 repeat' first
   | (with_reducible exact ih0 _ _ _)
   | (with_reducible exact papermillref13_more.mono _ _ _ _ _)
   | (with_reducible exact LeO.refl _)
   | (with_reducible exact LeO.none _)
   | (with_reducible refine LeO.ite ?_ ?_)
   | (with_reducible refine LeO.bind ?_ (fun _ => ?_))
   | exact ih0 _ _ _
   | exact papermillref13_more.mono _ _ _ _ _
   | exact LeO.none _
   | refine LeO.ite ?_ ?_
   | refine LeO.bind ?_ (fun _ => ?_)
set_option maxHeartbeats 8000000 in
set_option maxRecDepth 100000 in
theorem papermillref13_all.calls (k : Nat) (A0 : Option Addr) (c0 : Nat) (l0 : List (S56)) (r : List (S56)) (w : World) (hr0 : Kd.C k56 w A0 l0.length l0) (hc0 : l0.length ≤ c0) (h : papermillref13_all.f k l0 = some r) :
  Calls Try.prog 61 #[.slice A0 l0.length c0] w fun e w' => ∃ v0_ : Value, e = .returned (v0_) ∧ Kd.R k56 56 w' w.heap.size (fun _ => True) v0_ r ∧ Below w.heap.size w w' := by
 have hu56 := Try.underlying56
 have HR0 := Aside0.mk hr0
 have HC0 := Aside0.mk hc0
 clear hr0 hc0
 have HB := Aside0.mk (Below.refl w.heap.size w)
 have H : (papermillref13_all.l0 k l0 ([] : List (S56)) 0) = some r := h
 clear h
 have H' := Aside0.mk H
 clear H
 go_enter Try.func61, Try.ntmps61
 go_wp2
 go_loopg [3, 4] k (fun kq v3 v4 w' => ∃ (x3_1 : List (S56)) (x4_1 : Int), v4 = .int .i64 x4_1 ∧ Aside0 (papermillref13_all.l0 kq l0 x3_1 x4_1 = some r) ∧ Aside0 (kq ≤ k) ∧ Aside0 (Kd.R k56 56 w' w.heap.size (fun _ => True) v3 x3_1) ∧ Aside0 (Below w.heap.size w w'))
 case atStart => exact ⟨(([] : List (S56))), (0), (by first | rfl | (simp; done) | (simp [*]; done)), H', ⟨Nat.le_refl _⟩, ⟨by first | exact Kd.R_nil _ _ _ _ _ | exact Kd.N_nil _ _ _ _ _ | exact Kd.V_nil _ _ _ _ _ | exact Kd.Q_nil _ _ _ _ _ | exact Kd.S_nil _ _ _ _ _⟩, ⟨by repeat (first | exact HB.out | apply below_alloc | apply pw_below_drewN | apply below_drew1)⟩⟩
 case round =>
  clear H'
  obtain ⟨x3_1, x4_1, rfl, HA, HK1, HO_3, HB⟩ := hrel
  cases gk with
  | zero => exact absurd HA.out (by simp [papermillref13_all.l0])
  | succ k1 =>
   have H := HA.out
   clear HA
   simp only [papermillref13_all.l0] at H
   by_cases c2 : x4_1 < (l0.length : Int)
   ·rw [if_pos c2] at H
    have c2b0 : decide (x4_1 < (l0.length : Int)) = true := decide_eq_true c2
    clear c2
    by_cases c3 : 0 ≤ x4_1
    ·rw [if_pos c3] at H
     have c3b0 : decide (0 ≤ x4_1) = true := decide_eq_true c3
     clear c3
     replace H := Option.bind_eq_some_iff.mp H
     obtain ⟨t62002, A40, H⟩ := H
     replace H : (papermillref13_all.l0 k1 l0 t62002 (wrap64 (x4_1 + 1))) = some r := H
     have A4 := Aside0.mk A40
     clear A40
     have H' := Aside0.mk H
     clear H
     have p62001 : 0 ≤ (x4_1 : Int) := of_decide_eq_true (by assumption)
     have q62001 : x4_1 < (l0.length : Int) := of_decide_eq_true (by assumption)
     obtain ⟨ad62001, e62001, hx62001_0, hx62001_1, hx62001_2⟩ := at_T56 HR0.out x4_1 p62001 q62001
     cases e62001
     replace hx62001_0 := (HB.out.cell (World.block_lt_of_cell? w _ hx62001_0)).trans hx62001_0
     replace hx62001_1 := (HB.out.cell (World.block_lt_of_cell? w _ hx62001_1)).trans hx62001_1
     replace hx62001_2 := (HB.out.cell (World.block_lt_of_cell? w _ hx62001_2)).trans hx62001_2
     replace p62001 := eq_true p62001
     replace q62001 := eq_true q62001
     obtain ⟨Ao5, co5, eo5⟩ := Kd.R_slice HO_3.out
     subst eo5
     go_wp2_with (first | ((with_reducible refine gate_callee (f := 75) rfl ?_); refine goesL_ (some 16) rfl rfl Try.func75 (by kernel_rfl) rfl #[.slice Ao5 x3_1.length co5, .agg #[.int .i64 ((rd_T56 l0 x4_1).f0), .int .i64 ((rd_T56 l0 x4_1).f1), .bool ((rd_T56 l0 x4_1).f2)]] rfl (by (try simp only [List.map_toArray, List.map_cons, List.map_nil]); first | done | rfl | (simp only [List.length_drop, List.length_take]; rfl)) ?_; (with_reducible refine (papermillref13_more.calls k1 _ _ x3_1 ((rd_T56 l0 x4_1).f0) ((rd_T56 l0 x4_1).f1) ((rd_T56 l0 x4_1).f2) t62002 _ ?side1 ?side2 A4.out).mono ?_); (case side1 => exact (Kd.R_reads' HO_3.out).2.2); (case side2 => exact (Kd.R_reads' HO_3.out).2.1); rintro e w6 ⟨v62003, rfl, ho0, hb⟩; refine ⟨_, rfl, ?_⟩; have n0_ := Aside0.mk (Kd.R_elder' (HO_3.out) (Kd.R_base ho0) hb); have n1_ := Aside0.mk (Kd.R_lower (Kd.R_new' ho0 (Kd.R_lt (HO_3.out))) (below_size (by repeat (first | exact HB.out | apply below_alloc | apply pw_below_drewN | apply below_drew1)))); have n2_ := Aside0.mk (below_step (by repeat (first | exact HB.out | apply below_alloc | apply pw_below_drewN | apply below_drew1)) hb); clear HO_3; clear HB; have HO_3 := n0_; have HO62004 := n1_; have HB := n2_; clear n0_ n1_ n2_; (try clear hb); (try clear hb2); (try clear hk); (try clear hi); (try clear ho0)))
     go_roundg k1
     case measure => have := HK1.out; omega
     case rel => exact ⟨(t62002), (wrap64 (x4_1 + 1)), (by first | rfl | (simp; done) | (simp [*]; done)), H', ⟨by have := HK1.out; omega⟩, ⟨by exact Kd.R_mono HO62004.out (fun _ hk => trivial)⟩, ⟨by repeat (first | exact HB.out | apply below_alloc | apply pw_below_drewN | apply below_drew1)⟩⟩
    ·rw [if_neg c3] at H
     exact absurd H (by simp)
   ·rw [if_neg c2] at H
    have c2b0 : decide (x4_1 < (l0.length : Int)) = false := decide_eq_false c2
    clear c2
    obtain rfl := Option.some.inj H
    go_wp2
    go_ret
    exact ⟨_, by first | rfl | (simp [errW_none, errW_some] <;> rfl) | (simp [*, errW_none, errW_some] <;> rfl), by exact HO_3.out, by repeat (first | exact HB.out | apply below_alloc | apply pw_below_drewN | apply below_drew1)⟩

end Go.Proofs.Ytjkakgkiikjdmaa.G

namespace Go.Proofs.Ytjkakgkiikjdmaa.G
open Go.RowKit Go.Proofs.YtjkakgkiikjdmaaW.PrintWords Go.Proofs.YtjkakgkiikjdmaaW.PrintLast Go.Proofs.YtjkakgkiikjdmaaW.PrintMore
attribute [local go_sem] max2_int min2_int max_two min_two max_three min_three max_four min_four   -- for this text's walks alone
set_option linter.unusedVariables false
set_option linter.unusedSimpArgs false

def papermillref13_Norm.f (k : Nat) (l0 : List (S56)) : Option ((List (S56)) × Int) := (papermillref13_Check.f k l0).bind fun t43001 => (if t43001 = 0 then ((papermillref13_all.f k l0).bind fun t43002 => (some (t43002, 0))) else (some (([] : List (S56)), t43001)))
theorem papermillref13_Norm.mono : ∀ a0 k, LeO (papermillref13_Norm.f k a0) (papermillref13_Norm.f (k + 1) a0) := by
 intro a0 k
 unfold papermillref13_Norm.f
 repeat' first
   | (with_reducible exact papermillref13_Check.mono _ _)
   | (with_reducible exact papermillref13_all.mono _ _)
   | (with_reducible exact LeO.refl _)
   | (with_reducible exact LeO.none _)
   | (with_reducible refine LeO.ite ?_ ?_)
   | (with_reducible refine LeO.bind ?_ (fun _ => ?_))
   | exact papermillref13_Check.mono _ _
   | exact papermillref13_all.mono _ _
   | exact LeO.none _
   | refine LeO.ite ?_ ?_
   | refine LeO.bind ?_ (fun _ => ?_)
set_option maxHeartbeats 8000000 in
set_option maxRecDepth 100000 in
theorem papermillref13_Norm.calls (k : Nat) (A0 : Option Addr) (c0 : Nat) (l0 : List (S56)) (r1 : List (S56)) (r2 : Int) (w : World) (hr0 : Kd.C k56 w A0 l0.length l0) (hc0 : l0.length ≤ c0) (h : papermillref13_Norm.f k l0 = some (r1, r2)) :
  Calls Try.prog 42 #[.slice A0 l0.length c0] w fun e w' => ∃ v0_ : Value, e = .returned (.tuple #[v0_, .int .i64 r2]) ∧ Kd.R k56 56 w' w.heap.size (fun _ => True) v0_ r1 ∧ Below w.heap.size w w' := by
 have HR0 := Aside0.mk hr0
 have HC0 := Aside0.mk hc0
 clear hr0 hc0
 have HB := Aside0.mk (Below.refl w.heap.size w)
 have H : ((papermillref13_Check.f k l0).bind fun t43001 => (if t43001 = 0 then ((papermillref13_all.f k l0).bind fun t43002 => (some (t43002, 0))) else (some (([] : List (S56)), t43001)))) = some (r1, r2) := h
 clear h
 replace H := Option.bind_eq_some_iff.mp H
 obtain ⟨t43001, A20, H⟩ := H
 replace H : (if t43001 = 0 then ((papermillref13_all.f k l0).bind fun t43002 => (some (t43002, 0))) else (some (([] : List (S56)), t43001))) = some (r1, r2) := H
 have A2 := Aside0.mk A20
 clear A20
 by_cases c3 : t43001 = 0
 ·rw [if_pos c3] at H
  have c3b0 : (t43001 == 0) = true := beq_iff_eq.mpr c3
  have c3b1 : (t43001 != 0) = false := bne_eq_false_iff_eq.mpr c3
  clear c3
  replace H := Option.bind_eq_some_iff.mp H
  obtain ⟨t43002, A40, H⟩ := H
  replace H : (some (t43002, 0)) = some (r1, r2) := H
  have A4 := Aside0.mk A40
  clear A40
  simp only [Option.some.injEq, Prod.mk.injEq] at H
  obtain ⟨rfl, rfl⟩ := H
  go_enter Try.func42, Try.ntmps42
  go_wp2_with (first | ((with_reducible refine gate_callee (f := 60) rfl ?_); refine goesL_ (some 6) rfl rfl Try.func60 (by kernel_rfl) rfl #[.slice A0 l0.length c0] rfl (by (try simp only [List.map_toArray, List.map_cons, List.map_nil]); first | done | rfl | (simp only [List.length_drop, List.length_take]; rfl)) ?_; (with_reducible refine (papermillref13_Check.calls k _ _ l0 t43001 _ ?side1 ?side2 A2.out).mono ?_); (case side1 => exact HR0.out); (case side2 => exact HC0.out); rintro e w5 ⟨rfl, hb⟩; refine ⟨_, rfl, ?_⟩; have n0_ := Aside0.mk (below_step (by repeat (first | exact HB.out | apply below_alloc | apply pw_below_drewN | apply below_drew1)) hb); clear HB; have HB := n0_; clear n0_; (try clear hb); (try clear hb2); (try clear hk); (try clear hi)) | ((with_reducible refine gate_callee (f := 61) rfl ?_); refine goesL_ (some 11) rfl rfl Try.func61 (by kernel_rfl) rfl #[.slice A0 l0.length c0] rfl (by (try simp only [List.map_toArray, List.map_cons, List.map_nil]); first | done | rfl | (simp only [List.length_drop, List.length_take]; rfl)) ?_; (with_reducible refine (papermillref13_all.calls k _ _ l0 t43002 _ ?side1 ?side2 A4.out).mono ?_); (case side1 => exact (Kd.C_below HR0.out HB.out)); (case side2 => exact HC0.out); rintro e w6 ⟨v43003, rfl, ho0, hb⟩; refine ⟨_, rfl, ?_⟩; have n0_ := Aside0.mk (Kd.R_lower ho0 (below_size (by repeat (first | exact HB.out | apply below_alloc | apply pw_below_drewN | apply below_drew1)))); have n1_ := Aside0.mk (below_step (by repeat (first | exact HB.out | apply below_alloc | apply pw_below_drewN | apply below_drew1)) hb); clear HB; have HO43004 := n0_; have HB := n1_; clear n0_ n1_; (try clear hb); (try clear hb2); (try clear hk); (try clear hi); (try clear ho0)))
  go_ret2
  exact ⟨_, by first | rfl | (simp [errW_none, errW_some] <;> rfl) | (simp [*, errW_none, errW_some] <;> rfl), by exact HO43004.out, by repeat (first | exact HB.out | apply below_alloc | apply pw_below_drewN | apply below_drew1)⟩
 ·rw [if_neg c3] at H
  have c3b0 : (t43001 == 0) = false := beq_eq_false_iff_ne.mpr c3
  have c3b1 : (t43001 != 0) = true := bne_iff_ne.mpr c3
  simp only [Option.some.injEq, Prod.mk.injEq] at H
  obtain ⟨rfl, rfl⟩ := H
  go_enter Try.func42, Try.ntmps42
  go_wp2_with (first | ((with_reducible refine gate_callee (f := 60) rfl ?_); refine goesL_ (some 6) rfl rfl Try.func60 (by kernel_rfl) rfl #[.slice A0 l0.length c0] rfl (by (try simp only [List.map_toArray, List.map_cons, List.map_nil]); first | done | rfl | (simp only [List.length_drop, List.length_take]; rfl)) ?_; (with_reducible refine (papermillref13_Check.calls k _ _ l0 t43001 _ ?side1 ?side2 A2.out).mono ?_); (case side1 => exact HR0.out); (case side2 => exact HC0.out); rintro e w7 ⟨rfl, hb⟩; refine ⟨_, rfl, ?_⟩; have n0_ := Aside0.mk (below_step (by repeat (first | exact HB.out | apply below_alloc | apply pw_below_drewN | apply below_drew1)) hb); clear HB; have HB := n0_; clear n0_; (try clear hb); (try clear hb2); (try clear hk); (try clear hi)))
  go_ret2
  exact ⟨_, by first | rfl | (simp [errW_none, errW_some] <;> rfl) | (simp [*, errW_none, errW_some] <;> rfl), by first | exact Kd.R_nil _ _ _ _ _ | exact Kd.N_nil _ _ _ _ _ | exact Kd.V_nil _ _ _ _ _ | exact Kd.Q_nil _ _ _ _ _ | exact Kd.S_nil _ _ _ _ _, by repeat (first | exact HB.out | apply below_alloc | apply pw_below_drewN | apply below_drew1)⟩

end Go.Proofs.Ytjkakgkiikjdmaa.G

namespace Go.Proofs.Ytjkakgkiikjdmaa.G
open Go.RowKit Go.Proofs.YtjkakgkiikjdmaaW.PrintWords Go.Proofs.YtjkakgkiikjdmaaW.PrintLast Go.Proofs.YtjkakgkiikjdmaaW.PrintMore
attribute [local go_sem] max2_int min2_int max_two min_two max_three min_three max_four min_four   -- for this text's walks alone
set_option linter.unusedVariables false
set_option linter.unusedSimpArgs false

def papermillref40_Places.l0 : Nat → List (S56) → List Int → Int → Int → Option (List Int × Int)
 | 0, _, _, _, _ => none
 | k + 1, x4, x6, x7, x8 => if x8 < (x4.length : Int) then (if x8 > 0 then (if x6.length < 17592186044416 then (if 0 ≤ x8 then (papermillref40_Places.l0 k x4 (x6 ++ [x7]) (wrap64 (x7 + ((rd_T56 x4 x8).f1))) (wrap64 (x8 + 1))) else (none)) else (none)) else (if 0 ≤ x8 then (papermillref40_Places.l0 k x4 x6 (wrap64 (x7 + ((rd_T56 x4 x8).f1))) (wrap64 (x8 + 1))) else (none))) else (some (x6, 0))
def papermillref40_Places.f (k : Nat) (l0 : List (S56)) : Option (List Int × Int) := (papermillref13_Norm.f k l0).bind fun bt23001 => (if bt23001.2 = 0 then (papermillref40_Places.l0 k bt23001.1 ([] : List Int) 0 0) else (some (([] : List Int), bt23001.2)))
theorem papermillref40_Places.mono_l : ∀ k, (∀ y0 y1 y2 y3, LeO (papermillref40_Places.l0 k y0 y1 y2 y3) (papermillref40_Places.l0 (k + 1) y0 y1 y2 y3))
 | 0 => fun _ _ _ _ r h => by simp [papermillref40_Places.l0] at h
 | k + 1 => by
  have ih0 := papermillref40_Places.mono_l k
  ·intro y0 y1 y2 y3
   unfold papermillref40_Places.l0
   repeat' first
   | (with_reducible exact ih0 _ _ _ _)
   | (with_reducible exact papermillref13_Norm.mono _ _)
   | (with_reducible exact LeO.refl _)
   | (with_reducible exact LeO.none _)
   | (with_reducible refine LeO.ite ?_ ?_)
   | (with_reducible refine LeO.bind ?_ (fun _ => ?_))
   | exact ih0 _ _ _ _
   | exact papermillref13_Norm.mono _ _
   | exact LeO.none _
   | refine LeO.ite ?_ ?_
   | refine LeO.bind ?_ (fun _ => ?_)
theorem papermillref40_Places.mono : ∀ a0 k, LeO (papermillref40_Places.f k a0) (papermillref40_Places.f (k + 1) a0) := by
 intro a0 k
 have ih0 := papermillref40_Places.mono_l k
 unfold papermillref40_Places.f
 repeat' first
   | (with_reducible exact ih0 _ _ _ _)
   | (with_reducible exact papermillref13_Norm.mono _ _)
   | (with_reducible exact LeO.refl _)
   | (with_reducible exact LeO.none _)
   | (with_reducible refine LeO.ite ?_ ?_)
   | (with_reducible refine LeO.bind ?_ (fun _ => ?_))
   | exact ih0 _ _ _ _
   | exact papermillref13_Norm.mono _ _
   | exact LeO.none _
   | refine LeO.ite ?_ ?_
   | refine LeO.bind ?_ (fun _ => ?_)
set_option maxHeartbeats 8000000 in
set_option maxRecDepth 100000 in
theorem papermillref40_Places.calls (k : Nat) (A0 : Option Addr) (c0 : Nat) (l0 : List (S56)) (r1 : List Int) (r2 : Int) (w : World) (hr0 : Kd.C k56 w A0 l0.length l0) (hc0 : l0.length ≤ c0) (h : papermillref40_Places.f k l0 = some (r1, r2)) :
  Calls Try.prog 22 #[.slice A0 l0.length c0] w fun e w' => ∃ v0_ : Value, e = .returned (.tuple #[v0_, .int .i64 r2]) ∧ Kd.R (Kd.int .i64) 3 w' w.heap.size (fun _ => True) v0_ r1 ∧ Below w.heap.size w w' := by
 have HR0 := Aside0.mk hr0
 have HC0 := Aside0.mk hc0
 clear hr0 hc0
 have HB := Aside0.mk (Below.refl w.heap.size w)
 have H : ((papermillref13_Norm.f k l0).bind fun bt23001 => (if bt23001.2 = 0 then (papermillref40_Places.l0 k bt23001.1 ([] : List Int) 0 0) else (some (([] : List Int), bt23001.2)))) = some (r1, r2) := h
 clear h
 replace H := Option.bind_eq_some_iff.mp H
 obtain ⟨⟨t23001, t23002⟩, A20, H⟩ := H
 replace H : (if t23002 = 0 then (papermillref40_Places.l0 k t23001 ([] : List Int) 0 0) else (some (([] : List Int), t23002))) = some (r1, r2) := H
 have A2 := Aside0.mk A20
 clear A20
 by_cases c3 : t23002 = 0
 ·rw [if_pos c3] at H
  have c3b0 : (t23002 == 0) = true := beq_iff_eq.mpr c3
  have c3b1 : (t23002 != 0) = false := bne_eq_false_iff_eq.mpr c3
  clear c3
  have H' := Aside0.mk H
  clear H
  go_enter Try.func22, Try.ntmps22
  go_wp2_with (first | ((with_reducible refine gate_callee (f := 42) rfl ?_); refine goesL_ (some 11) rfl rfl Try.func42 (by kernel_rfl) rfl #[.slice A0 l0.length c0] rfl (by (try simp only [List.map_toArray, List.map_cons, List.map_nil]); first | done | rfl | (simp only [List.length_drop, List.length_take]; rfl)) ?_; (with_reducible refine (papermillref13_Norm.calls k _ _ l0 t23001 t23002 _ ?side1 ?side2 A2.out).mono ?_); (case side1 => exact HR0.out); (case side2 => exact HC0.out); rintro e w4 ⟨v23003, rfl, ho0, hb⟩; refine ⟨_, rfl, ?_⟩; have n0_ := Aside0.mk (Kd.R_lower ho0 (below_size (by repeat (first | exact HB.out | apply below_alloc | apply pw_below_drewN | apply below_drew1)))); have n1_ := Aside0.mk (below_step (by repeat (first | exact HB.out | apply below_alloc | apply pw_below_drewN | apply below_drew1)) hb); clear HB; have HO23004 := n0_; have HB := n1_; clear n0_ n1_; (try clear hb); (try clear hb2); (try clear hk); (try clear hi); (try clear ho0)))
  go_loopg [6, 7, 8] k (fun kq v6 v7 v8 w' => ∃ (x6_1 : List Int) (x7_1 : Int) (x8_1 : Int), v7 = .int .i64 x7_1 ∧ v8 = .int .i64 x8_1 ∧ Aside0 (papermillref40_Places.l0 kq t23001 x6_1 x7_1 x8_1 = some (r1, r2)) ∧ Aside0 (kq ≤ k) ∧ Aside0 (Kd.R k56 56 w' w.heap.size (fun _ => True) v23003 t23001) ∧ Aside0 (Kd.R (Kd.int .i64) 3 w' w.heap.size (fun _ => True) v6 x6_1) ∧ Aside0 (Below w.heap.size w w'))
  case atStart => exact ⟨(([] : List Int)), (0), (0), (by first | rfl | (simp; done) | (simp [*]; done)), (by first | rfl | (simp; done) | (simp [*]; done)), H', ⟨Nat.le_refl _⟩, ⟨HO23004.out⟩, ⟨by first | exact Kd.R_nil _ _ _ _ _ | exact Kd.N_nil _ _ _ _ _ | exact Kd.V_nil _ _ _ _ _ | exact Kd.Q_nil _ _ _ _ _ | exact Kd.S_nil _ _ _ _ _⟩, ⟨by repeat (first | exact HB.out | apply below_alloc | apply pw_below_drewN | apply below_drew1)⟩⟩
  case round =>
   clear H'
   try clear c2
   try clear p2
   try clear c3
   try clear c3b0
   try clear c3b1
   try clear c4
   obtain ⟨x6_1, x7_1, x8_1, rfl, rfl, HA, HK1, HO_4, HO_6, HB⟩ := hrel
   cases gk with
   | zero => exact absurd HA.out (by simp [papermillref40_Places.l0])
   | succ k1 =>
    have H := HA.out
    clear HA
    simp only [papermillref40_Places.l0] at H
    by_cases c5 : x8_1 < (t23001.length : Int)
    ·rw [if_pos c5] at H
     have c5b0 : decide (x8_1 < (t23001.length : Int)) = true := decide_eq_true c5
     clear c5
     by_cases c6 : x8_1 > 0
     ·rw [if_pos c6] at H
      have c6b0 : decide (0 < x8_1) = true := decide_eq_true c6
      clear c6
      by_cases c7 : x6_1.length < 17592186044416
      ·rw [if_pos c7] at H
       have LMc7 := Aside0.mk c7
       clear c7
       obtain ⟨y23005, hy23005⟩ : ∃ y_ : List Int, y_ = (x6_1 ++ [x7_1]) := ⟨_, rfl⟩
       replace H : (if 0 ≤ x8_1 then (papermillref40_Places.l0 k1 t23001 y23005 (wrap64 (x7_1 + ((rd_T56 t23001 x8_1).f1))) (wrap64 (x8_1 + 1))) else (none)) = some (r1, r2) := by first | (rw [hy23005]; with_reducible exact H) | (have H2_ := (Option.bind_some _ _).symm.trans H; rw [hy23005]; with_reducible exact H2_) | (have H2_ := (Option.bind_some _ _).symm.trans H; with_reducible exact H2_) | with_reducible exact H | (rw [hy23005]; exact H) | exact H
       have Ny23005 := Aside0.mk hy23005
       clear hy23005
       by_cases c8 : 0 ≤ x8_1
       ·rw [if_pos c8] at H
        have c8b0 : decide (0 ≤ x8_1) = true := decide_eq_true c8
        clear c8
        have H' := Aside0.mk H
        clear H
        obtain ⟨Ao9, co9, eo9⟩ := Kd.R_slice HO_4.out
        subst eo9
        go_wp2_with (first | ((with_reducible refine gate_builtin (b := .append) (xs := #[.tmp 25, .tmp 27]) rfl ?_); at_builtin; refine Kd.R_append (Kd.int .i64) (w0 := w) w.heap.size rfl (.tmp 25) (.tmp 27) 36 3 (.int .i64 0) 8 rfl Try.underlying36 info3 rfl (by decide) (by omega) u6 x6_1 x7_1 [.int .i64 x7_1] (fun _ => True) (fun _ => False) rfl rfl ?aP (fun _ hk => hk.elim) ?aF ?aO ?aB ?aS ?aL ?_; (case aP => exact rfl); (case aB => exact (by repeat (first | exact HB.out | apply below_alloc | apply pw_below_drewN | apply below_drew1))); (case aF => exact (fun _ _ => trivial)); (case aO => exact (HO_6.out)); (case aS => exact (below_size (by repeat (first | exact HB.out | apply below_alloc | apply pw_below_drewN | apply below_drew1)))); (case aL => have := LMc7.out; omega); intro v23006 w10 ho hb hg hat; rw [← Ny23005.out] at ho; have n0_ := Aside0.mk (Kd.R_over' (HO_4.out) (Kd.R_typed (HO_6.out)) (by decide) hg); have n1_ := Aside0.mk (hb); have n2_ := Aside0.mk (ho); clear HO_4; clear HB; clear HO_6; have HO_4 := n0_; have HB := n1_; have HO23007 := n2_; clear n0_ n1_ n2_; clear ho hb hg hat; have p23008 : 0 ≤ (x8_1 : Int) := of_decide_eq_true (by assumption); have q23008 : x8_1 < (t23001.length : Int) := of_decide_eq_true (by assumption); obtain ⟨ad23008, e23008, hx23008_0, hx23008_1, hx23008_2⟩ := at_T56 (Kd.R_reads' HO_4.out).2.2 x8_1 p23008 q23008; cases e23008; replace p23008 := eq_true p23008; replace q23008 := eq_true q23008))
        go_roundg k1
        case measure => have := HK1.out; omega
        case rel => exact ⟨(y23005), (wrap64 (x7_1 + ((rd_T56 t23001 x8_1).f1))), (wrap64 (x8_1 + 1)), (by first | rfl | (simp; done) | (simp [*]; done)), (by first | rfl | (simp; done) | (simp [*]; done)), H', ⟨by have := HK1.out; omega⟩, ⟨HO_4.out⟩, ⟨HO23007.out⟩, ⟨by repeat (first | exact HB.out | apply below_alloc | apply pw_below_drewN | apply below_drew1)⟩⟩
       ·rw [if_neg c8] at H
        exact absurd H (by simp)
      ·rw [if_neg c7] at H
       exact absurd H (by simp)
     ·rw [if_neg c6] at H
      have c6b0 : decide (0 < x8_1) = false := decide_eq_false c6
      clear c6
      by_cases c11 : 0 ≤ x8_1
      ·rw [if_pos c11] at H
       have c11b0 : decide (0 ≤ x8_1) = true := decide_eq_true c11
       clear c11
       have H' := Aside0.mk H
       clear H
       obtain ⟨Ao12, co12, eo12⟩ := Kd.R_slice HO_4.out
       subst eo12
       have p23009 : 0 ≤ (x8_1 : Int) := of_decide_eq_true (by assumption)
       have q23009 : x8_1 < (t23001.length : Int) := of_decide_eq_true (by assumption)
       obtain ⟨ad23009, e23009, hx23009_0, hx23009_1, hx23009_2⟩ := at_T56 (Kd.R_reads' HO_4.out).2.2 x8_1 p23009 q23009
       cases e23009
       replace p23009 := eq_true p23009
       replace q23009 := eq_true q23009
       go_wp2
       go_roundg k1
       case measure => have := HK1.out; omega
       case rel => exact ⟨(x6_1), (wrap64 (x7_1 + ((rd_T56 t23001 x8_1).f1))), (wrap64 (x8_1 + 1)), (by first | rfl | (simp; done) | (simp [*]; done)), (by first | rfl | (simp; done) | (simp [*]; done)), H', ⟨by have := HK1.out; omega⟩, ⟨HO_4.out⟩, ⟨HO_6.out⟩, ⟨by repeat (first | exact HB.out | apply below_alloc | apply pw_below_drewN | apply below_drew1)⟩⟩
      ·rw [if_neg c11] at H
       exact absurd H (by simp)
    ·rw [if_neg c5] at H
     have c5b0 : decide (x8_1 < (t23001.length : Int)) = false := decide_eq_false c5
     clear c5
     simp only [Option.some.injEq, Prod.mk.injEq] at H
     obtain ⟨rfl, rfl⟩ := H
     obtain ⟨Ao13, co13, eo13⟩ := Kd.R_slice HO_4.out
     subst eo13
     go_wp2
     go_ret2
     exact ⟨_, by first | rfl | (simp [errW_none, errW_some] <;> rfl) | (simp [*, errW_none, errW_some] <;> rfl), by exact HO_6.out, by repeat (first | exact HB.out | apply below_alloc | apply pw_below_drewN | apply below_drew1)⟩
 ·rw [if_neg c3] at H
  have c3b0 : (t23002 == 0) = false := beq_eq_false_iff_ne.mpr c3
  have c3b1 : (t23002 != 0) = true := bne_iff_ne.mpr c3
  simp only [Option.some.injEq, Prod.mk.injEq] at H
  obtain ⟨rfl, rfl⟩ := H
  go_enter Try.func22, Try.ntmps22
  go_wp2_with (first | ((with_reducible refine gate_callee (f := 42) rfl ?_); refine goesL_ (some 11) rfl rfl Try.func42 (by kernel_rfl) rfl #[.slice A0 l0.length c0] rfl (by (try simp only [List.map_toArray, List.map_cons, List.map_nil]); first | done | rfl | (simp only [List.length_drop, List.length_take]; rfl)) ?_; (with_reducible refine (papermillref13_Norm.calls k _ _ l0 t23001 t23002 _ ?side1 ?side2 A2.out).mono ?_); (case side1 => exact HR0.out); (case side2 => exact HC0.out); rintro e w14 ⟨v23003, rfl, ho0, hb⟩; refine ⟨_, rfl, ?_⟩; have n0_ := Aside0.mk (Kd.R_lower ho0 (below_size (by repeat (first | exact HB.out | apply below_alloc | apply pw_below_drewN | apply below_drew1)))); have n1_ := Aside0.mk (below_step (by repeat (first | exact HB.out | apply below_alloc | apply pw_below_drewN | apply below_drew1)) hb); clear HB; have HO23004 := n0_; have HB := n1_; clear n0_ n1_; (try clear hb); (try clear hb2); (try clear hk); (try clear hi); (try clear ho0)))
  go_ret2
  exact ⟨_, by first | rfl | (simp [errW_none, errW_some] <;> rfl) | (simp [*, errW_none, errW_some] <;> rfl), by first | exact Kd.R_nil _ _ _ _ _ | exact Kd.N_nil _ _ _ _ _ | exact Kd.V_nil _ _ _ _ _ | exact Kd.Q_nil _ _ _ _ _ | exact Kd.S_nil _ _ _ _ _, by repeat (first | exact HB.out | apply below_alloc | apply pw_below_drewN | apply below_drew1)⟩

end Go.Proofs.Ytjkakgkiikjdmaa.G

namespace Go.Proofs.Ytjkakgkiikjdmaa.G
open Go.RowKit Go.Proofs.YtjkakgkiikjdmaaW.PrintWords Go.Proofs.YtjkakgkiikjdmaaW.PrintLast Go.Proofs.YtjkakgkiikjdmaaW.PrintMore
attribute [local go_sem] max2_int min2_int max_two min_two max_three min_three max_four min_four   -- for this text's walks alone
set_option linter.unusedVariables false
set_option linter.unusedSimpArgs false

def papermillref13_Length.f (k : Nat) (l0 : List (S56)) : Option (Int × Int) := (papermillref13_Check.f k l0).bind fun t45001 => (if t45001 = 0 then ((papermillref13_length.f k l0).bind fun t45002 => (some (t45002, 0))) else (some (0, t45001)))
theorem papermillref13_Length.mono : ∀ a0 k, LeO (papermillref13_Length.f k a0) (papermillref13_Length.f (k + 1) a0) := by
 intro a0 k
 unfold papermillref13_Length.f
 repeat' first
   | (with_reducible exact papermillref13_Check.mono _ _)
   | (with_reducible exact papermillref13_length.mono _ _)
   | (with_reducible exact LeO.refl _)
   | (with_reducible exact LeO.none _)
   | (with_reducible refine LeO.ite ?_ ?_)
   | (with_reducible refine LeO.bind ?_ (fun _ => ?_))
   | exact papermillref13_Check.mono _ _
   | exact papermillref13_length.mono _ _
   | exact LeO.none _
   | refine LeO.ite ?_ ?_
   | refine LeO.bind ?_ (fun _ => ?_)
set_option maxHeartbeats 8000000 in
set_option maxRecDepth 100000 in
theorem papermillref13_Length.calls (k : Nat) (A0 : Option Addr) (c0 : Nat) (l0 : List (S56)) (r1 : Int) (r2 : Int) (w : World) (hr0 : Kd.C k56 w A0 l0.length l0) (hc0 : l0.length ≤ c0) (h : papermillref13_Length.f k l0 = some (r1, r2)) :
  Calls Try.prog 44 #[.slice A0 l0.length c0] w fun e w' => e = .returned (.tuple #[.int .i64 r1, .int .i64 r2]) ∧ Below w.heap.size w w' := by
 have HR0 := Aside0.mk hr0
 have HC0 := Aside0.mk hc0
 clear hr0 hc0
 have HB := Aside0.mk (Below.refl w.heap.size w)
 have H : ((papermillref13_Check.f k l0).bind fun t45001 => (if t45001 = 0 then ((papermillref13_length.f k l0).bind fun t45002 => (some (t45002, 0))) else (some (0, t45001)))) = some (r1, r2) := h
 clear h
 replace H := Option.bind_eq_some_iff.mp H
 obtain ⟨t45001, A20, H⟩ := H
 replace H : (if t45001 = 0 then ((papermillref13_length.f k l0).bind fun t45002 => (some (t45002, 0))) else (some (0, t45001))) = some (r1, r2) := H
 have A2 := Aside0.mk A20
 clear A20
 by_cases c3 : t45001 = 0
 ·rw [if_pos c3] at H
  have c3b0 : (t45001 == 0) = true := beq_iff_eq.mpr c3
  have c3b1 : (t45001 != 0) = false := bne_eq_false_iff_eq.mpr c3
  clear c3
  replace H := Option.bind_eq_some_iff.mp H
  obtain ⟨t45002, A40, H⟩ := H
  replace H : (some (t45002, 0)) = some (r1, r2) := H
  have A4 := Aside0.mk A40
  clear A40
  simp only [Option.some.injEq, Prod.mk.injEq] at H
  obtain ⟨rfl, rfl⟩ := H
  go_enter Try.func44, Try.ntmps44
  go_wp2_with (first | ((with_reducible refine gate_callee (f := 60) rfl ?_); refine goesL_ (some 6) rfl rfl Try.func60 (by kernel_rfl) rfl #[.slice A0 l0.length c0] rfl (by (try simp only [List.map_toArray, List.map_cons, List.map_nil]); first | done | rfl | (simp only [List.length_drop, List.length_take]; rfl)) ?_; (with_reducible refine (papermillref13_Check.calls k _ _ l0 t45001 _ ?side1 ?side2 A2.out).mono ?_); (case side1 => exact HR0.out); (case side2 => exact HC0.out); rintro e w5 ⟨rfl, hb⟩; refine ⟨_, rfl, ?_⟩; have n0_ := Aside0.mk (below_step (by repeat (first | exact HB.out | apply below_alloc | apply pw_below_drewN | apply below_drew1)) hb); clear HB; have HB := n0_; clear n0_; (try clear hb); (try clear hb2); (try clear hk); (try clear hi)) | ((with_reducible refine gate_callee (f := 63) rfl ?_); refine goesL_ (some 11) rfl rfl Try.func63 (by kernel_rfl) rfl #[.slice A0 l0.length c0] rfl (by (try simp only [List.map_toArray, List.map_cons, List.map_nil]); first | done | rfl | (simp only [List.length_drop, List.length_take]; rfl)) ?_; (with_reducible refine (papermillref13_length.calls k _ _ l0 t45002 _ ?side1 ?side2 A4.out).mono ?_); (case side1 => exact (Kd.C_below HR0.out HB.out)); (case side2 => exact HC0.out); rintro e w' ⟨rfl, ⟨nd, rfl⟩⟩; refine ⟨_, rfl, ?_⟩))
  go_ret2
  exact ⟨by first | rfl | (simp [errW_none, errW_some] <;> rfl) | (simp [*, errW_none, errW_some] <;> rfl), by repeat (first | exact HB.out | apply below_alloc | apply pw_below_drewN | apply below_drew1)⟩
 ·rw [if_neg c3] at H
  have c3b0 : (t45001 == 0) = false := beq_eq_false_iff_ne.mpr c3
  have c3b1 : (t45001 != 0) = true := bne_iff_ne.mpr c3
  simp only [Option.some.injEq, Prod.mk.injEq] at H
  obtain ⟨rfl, rfl⟩ := H
  go_enter Try.func44, Try.ntmps44
  go_wp2_with (first | ((with_reducible refine gate_callee (f := 60) rfl ?_); refine goesL_ (some 6) rfl rfl Try.func60 (by kernel_rfl) rfl #[.slice A0 l0.length c0] rfl (by (try simp only [List.map_toArray, List.map_cons, List.map_nil]); first | done | rfl | (simp only [List.length_drop, List.length_take]; rfl)) ?_; (with_reducible refine (papermillref13_Check.calls k _ _ l0 t45001 _ ?side1 ?side2 A2.out).mono ?_); (case side1 => exact HR0.out); (case side2 => exact HC0.out); rintro e w6 ⟨rfl, hb⟩; refine ⟨_, rfl, ?_⟩; have n0_ := Aside0.mk (below_step (by repeat (first | exact HB.out | apply below_alloc | apply pw_below_drewN | apply below_drew1)) hb); clear HB; have HB := n0_; clear n0_; (try clear hb); (try clear hb2); (try clear hk); (try clear hi)))
  go_ret2
  exact ⟨by first | rfl | (simp [errW_none, errW_some] <;> rfl) | (simp [*, errW_none, errW_some] <;> rfl), by repeat (first | exact HB.out | apply below_alloc | apply pw_below_drewN | apply below_drew1)⟩

end Go.Proofs.Ytjkakgkiikjdmaa.G

namespace Go.Proofs.Ytjkakgkiikjdmaa.G
open Go.RowKit Go.Proofs.YtjkakgkiikjdmaaW.PrintWords Go.Proofs.YtjkakgkiikjdmaaW.PrintLast Go.Proofs.YtjkakgkiikjdmaaW.PrintMore
attribute [local go_sem] max2_int min2_int max_two min_two max_three min_three max_four min_four   -- for this text's walks alone
set_option linter.unusedVariables false
set_option linter.unusedSimpArgs false

def papermillref40_splices.l0 : Nat → List Int → Int → Int → Int → Int → Option (Int)
 | 0, _, _, _, _, _ => none
 | k + 1, x0, x1, x2, x7, x8 => if x8 < (x0.length : Int) then (if 0 ≤ x8 then (if x1 < (rd x0 x8) then (if (rd x0 x8) < (wrap64 (x1 + x2)) then (papermillref40_splices.l0 k x0 x1 x2 (wrap64 (x7 + 1)) (wrap64 (x8 + 1))) else (papermillref40_splices.l0 k x0 x1 x2 x7 (wrap64 (x8 + 1)))) else (papermillref40_splices.l0 k x0 x1 x2 x7 (wrap64 (x8 + 1)))) else (none)) else (some x7)
def papermillref40_splices.f (k : Nat) (l0 : List Int) (a1 : Int) (a2 : Int) : Option (Int) := papermillref40_splices.l0 k l0 a1 a2 0 0
theorem papermillref40_splices.mono_l : ∀ k, (∀ y0 y1 y2 y3 y4, LeO (papermillref40_splices.l0 k y0 y1 y2 y3 y4) (papermillref40_splices.l0 (k + 1) y0 y1 y2 y3 y4))
 | 0 => fun _ _ _ _ _ r h => by simp [papermillref40_splices.l0] at h
 | k + 1 => by
  have ih0 := papermillref40_splices.mono_l k
  ·intro y0 y1 y2 y3 y4
   unfold papermillref40_splices.l0
   repeat' first
   | (with_reducible exact ih0 _ _ _ _ _)
   | (with_reducible exact LeO.refl _)
   | (with_reducible exact LeO.none _)
   | (with_reducible refine LeO.ite ?_ ?_)
   | (with_reducible refine LeO.bind ?_ (fun _ => ?_))
   | exact ih0 _ _ _ _ _
   | exact LeO.none _
   | refine LeO.ite ?_ ?_
   | refine LeO.bind ?_ (fun _ => ?_)
theorem papermillref40_splices.mono : ∀ a0 a1 a2 k, LeO (papermillref40_splices.f k a0 a1 a2) (papermillref40_splices.f (k + 1) a0 a1 a2) := by
 intro a0 a1 a2 k
 have ih0 := papermillref40_splices.mono_l k
 unfold papermillref40_splices.f
 repeat' first
   | (with_reducible exact ih0 _ _ _ _ _)
   | (with_reducible exact LeO.refl _)
   | (with_reducible exact LeO.none _)
   | (with_reducible refine LeO.ite ?_ ?_)
   | (with_reducible refine LeO.bind ?_ (fun _ => ?_))
   | exact ih0 _ _ _ _ _
   | exact LeO.none _
   | refine LeO.ite ?_ ?_
   | refine LeO.bind ?_ (fun _ => ?_)
set_option maxHeartbeats 8000000 in
set_option maxRecDepth 100000 in
theorem papermillref40_splices.calls (k : Nat) (A0 : Option Addr) (c0 : Nat) (l0 : List Int) (a1 : Int) (a2 : Int) (r : Int) (w : World) (hr0 : Kd.C (Kd.int .i64) w A0 l0.length l0) (hc0 : l0.length ≤ c0) (h : papermillref40_splices.f k l0 a1 a2 = some r) :
  Calls Try.prog 45 #[.slice A0 l0.length c0, .int .i64 a1, .int .i64 a2] w fun e w' => e = .returned (.int .i64 r) ∧ Drawn0 w w' := by
 have HR0 := Aside0.mk hr0
 have HC0 := Aside0.mk hc0
 clear hr0 hc0
 have H : (papermillref40_splices.l0 k l0 a1 a2 0 0) = some r := h
 clear h
 have H' := Aside0.mk H
 clear H
 go_enter Try.func45, Try.ntmps45
 go_wp2
 go_loopg [7, 8] k (fun kq v7 v8 w' => ∃ (x7_1 : Int) (x8_1 : Int), v7 = .int .i64 x7_1 ∧ v8 = .int .i64 x8_1 ∧ Aside0 (papermillref40_splices.l0 kq l0 a1 a2 x7_1 x8_1 = some r) ∧ Aside0 (kq ≤ k) ∧ Drawn0 w w')
 case atStart => exact ⟨(0), (0), (by first | rfl | (simp; done) | (simp [*]; done)), (by first | rfl | (simp; done) | (simp [*]; done)), H', ⟨Nat.le_refl _⟩, by repeat (first | exact Drawn0.refl _ | apply Drawn0.step)⟩
 case round =>
  clear H'
  try clear p2
  obtain ⟨x7_1, x8_1, rfl, rfl, HA, HK1, ⟨m1, rfl⟩⟩ := hrel
  cases gk with
  | zero => exact absurd HA.out (by simp [papermillref40_splices.l0])
  | succ k1 =>
   have H := HA.out
   clear HA
   simp only [papermillref40_splices.l0] at H
   by_cases c4 : x8_1 < (l0.length : Int)
   ·rw [if_pos c4] at H
    have c4b0 : decide (x8_1 < (l0.length : Int)) = true := decide_eq_true c4
    clear c4
    by_cases c5 : 0 ≤ x8_1
    ·rw [if_pos c5] at H
     have c5b0 : decide (0 ≤ x8_1) = true := decide_eq_true c5
     clear c5
     by_cases c6 : a1 < (rd l0 x8_1)
     ·rw [if_pos c6] at H
      have c6b0 : decide (a1 < (rd l0 x8_1)) = true := decide_eq_true c6
      clear c6
      by_cases c7 : (rd l0 x8_1) < (wrap64 (a1 + a2))
      ·rw [if_pos c7] at H
       have c7b0 : decide ((rd l0 x8_1) < (wrap64 (a1 + a2))) = true := decide_eq_true c7
       clear c7
       have H' := Aside0.mk H
       clear H
       have p46001 : 0 ≤ (x8_1 : Int) := of_decide_eq_true (by assumption)
       have q46001 : x8_1 < (l0.length : Int) := of_decide_eq_true (by assumption)
       obtain ⟨ad46001, e46001, hx46001_0⟩ := Kd.at_int HR0.out x8_1 p46001 q46001
       cases e46001
       replace p46001 := eq_true p46001
       replace q46001 := eq_true q46001
       have p46002 : 0 ≤ (x8_1 : Int) := of_decide_eq_true (by assumption)
       have q46002 : x8_1 < (l0.length : Int) := of_decide_eq_true (by assumption)
       obtain ⟨ad46002, e46002, hx46002_0⟩ := Kd.at_int HR0.out x8_1 p46002 q46002
       obtain rfl : ad46001 = ad46002 := (by injection e46002)
       replace p46002 := eq_true p46002
       replace q46002 := eq_true q46002
       go_wp2
       go_roundg k1
       case measure => have := HK1.out; omega
       case rel => exact ⟨(wrap64 (x7_1 + 1)), (wrap64 (x8_1 + 1)), (by first | rfl | (simp; done) | (simp [*]; done)), (by first | rfl | (simp; done) | (simp [*]; done)), H', ⟨by have := HK1.out; omega⟩, by repeat (first | exact Drawn0.refl _ | apply Drawn0.step)⟩
      ·rw [if_neg c7] at H
       have c7b0 : decide ((rd l0 x8_1) < (wrap64 (a1 + a2))) = false := decide_eq_false c7
       clear c7
       have H' := Aside0.mk H
       clear H
       have p46001 : 0 ≤ (x8_1 : Int) := of_decide_eq_true (by assumption)
       have q46001 : x8_1 < (l0.length : Int) := of_decide_eq_true (by assumption)
       obtain ⟨ad46001, e46001, hx46001_0⟩ := Kd.at_int HR0.out x8_1 p46001 q46001
       cases e46001
       replace p46001 := eq_true p46001
       replace q46001 := eq_true q46001
       have p46002 : 0 ≤ (x8_1 : Int) := of_decide_eq_true (by assumption)
       have q46002 : x8_1 < (l0.length : Int) := of_decide_eq_true (by assumption)
       obtain ⟨ad46002, e46002, hx46002_0⟩ := Kd.at_int HR0.out x8_1 p46002 q46002
       obtain rfl : ad46001 = ad46002 := (by injection e46002)
       replace p46002 := eq_true p46002
       replace q46002 := eq_true q46002
       go_wp2
       go_roundg k1
       case measure => have := HK1.out; omega
       case rel => exact ⟨(x7_1), (wrap64 (x8_1 + 1)), (by first | rfl | (simp; done) | (simp [*]; done)), (by first | rfl | (simp; done) | (simp [*]; done)), H', ⟨by have := HK1.out; omega⟩, by repeat (first | exact Drawn0.refl _ | apply Drawn0.step)⟩
     ·rw [if_neg c6] at H
      have c6b0 : decide (a1 < (rd l0 x8_1)) = false := decide_eq_false c6
      clear c6
      have H' := Aside0.mk H
      clear H
      have p46001 : 0 ≤ (x8_1 : Int) := of_decide_eq_true (by assumption)
      have q46001 : x8_1 < (l0.length : Int) := of_decide_eq_true (by assumption)
      obtain ⟨ad46001, e46001, hx46001_0⟩ := Kd.at_int HR0.out x8_1 p46001 q46001
      cases e46001
      replace p46001 := eq_true p46001
      replace q46001 := eq_true q46001
      go_wp2
      go_roundg k1
      case measure => have := HK1.out; omega
      case rel => exact ⟨(x7_1), (wrap64 (x8_1 + 1)), (by first | rfl | (simp; done) | (simp [*]; done)), (by first | rfl | (simp; done) | (simp [*]; done)), H', ⟨by have := HK1.out; omega⟩, by repeat (first | exact Drawn0.refl _ | apply Drawn0.step)⟩
    ·rw [if_neg c5] at H
     exact absurd H (by simp)
   ·rw [if_neg c4] at H
    have c4b0 : decide (x8_1 < (l0.length : Int)) = false := decide_eq_false c4
    clear c4
    obtain rfl := Option.some.inj H
    go_wp2
    go_ret
    exact ⟨by first | rfl | (simp; done) | (simp [*]; done), by repeat (first | exact Drawn0.refl _ | apply Drawn0.step)⟩

end Go.Proofs.Ytjkakgkiikjdmaa.G

namespace Go.Proofs.Ytjkakgkiikjdmaa.G
open Go.RowKit Go.Proofs.YtjkakgkiikjdmaaW.PrintWords Go.Proofs.YtjkakgkiikjdmaaW.PrintLast Go.Proofs.YtjkakgkiikjdmaaW.PrintMore
attribute [local go_sem] max2_int min2_int max_two min_two max_three min_three max_four min_four   -- for this text's walks alone
set_option linter.unusedVariables false
set_option linter.unusedSimpArgs false

mutual
def papermillref40_Allowed.j0 : Nat → List (S56) → Int → Int → List Int → Bool → Option ((List (S49)) × Int)
 | 0, _, _, _, _, _ => none
 | k + 1, x0, x1, x2, x8, x38 => if x38 = true then (some (([] : List (S49)), 1)) else ((papermillref13_Length.f k x0).bind fun bt28005 => (papermillref40_Allowed.l0 k x1 x2 x8 bt28005.1 ([] : List (S49)) 0))
def papermillref40_Allowed.l0 : Nat → Int → Int → List Int → Int → List (S49) → Int → Option ((List (S49)) × Int)
 | 0, _, _, _, _, _, _ => none
 | k + 1, x1, x2, x8, x10, x12, x13 => if x13 ≤ (wrap64 (x10 - x1)) then (papermillref40_Allowed.l1 k x1 x2 x8 x10 x12 x13 (wrap64 ((wrap64 (x10 - x1)) + 1)) 0) else (some (x12, 0))
def papermillref40_Allowed.l1 : Nat → Int → Int → List Int → Int → List (S49) → Int → Int → Int → Option ((List (S49)) × Int)
 | 0, _, _, _, _, _, _, _, _ => none
 | k + 1, x1, x2, x8, x10, x12, x13, x14, x15 => if x15 < (x8.length : Int) then (if 0 ≤ x15 then (if (rd x8 x15) > x13 then (if (wrap64 ((wrap64 ((rd x8 x15) - x1)) + 1)) > x13 then (papermillref40_Allowed.l1 k x1 x2 x8 x10 x12 x13 (mn (mn x14 (rd x8 x15)) (wrap64 ((wrap64 ((rd x8 x15) - x1)) + 1))) (wrap64 (x15 + 1))) else (papermillref40_Allowed.l1 k x1 x2 x8 x10 x12 x13 (mn x14 (rd x8 x15)) (wrap64 (x15 + 1)))) else (if (wrap64 ((wrap64 ((rd x8 x15) - x1)) + 1)) > x13 then (papermillref40_Allowed.l1 k x1 x2 x8 x10 x12 x13 (mn x14 (wrap64 ((wrap64 ((rd x8 x15) - x1)) + 1))) (wrap64 (x15 + 1))) else (papermillref40_Allowed.l1 k x1 x2 x8 x10 x12 x13 x14 (wrap64 (x15 + 1))))) else (none)) else ((papermillref40_splices.f k x8 x13 x1).bind fun t28013 => (if t28013 ≤ x2 then (if (wrap64 ((x12.length : Int) - 1)) ≥ 0 then (if 0 ≤ (wrap64 ((x12.length : Int) - 1)) then (if (wrap64 ((x12.length : Int) - 1)) < (x12.length : Int) then (papermillref40_Allowed.j3 k x1 x2 x8 x10 x12 x13 x14 (wrap64 ((x12.length : Int) - 1)) (((rd_T49 x12 (wrap64 ((x12.length : Int) - 1))).f1) == x13)) else (none)) else (none)) else (papermillref40_Allowed.j3 k x1 x2 x8 x10 x12 x13 x14 (wrap64 ((x12.length : Int) - 1)) false)) else (papermillref40_Allowed.j3 k x1 x2 x8 x10 x12 x13 x14 (wrap64 ((x12.length : Int) - 1)) false)))
def papermillref40_Allowed.j3 : Nat → Int → Int → List Int → Int → List (S49) → Int → Int → Int → Bool → Option ((List (S49)) × Int)
 | 0, _, _, _, _, _, _, _, _, _ => none
 | k + 1, x1, x2, x8, x10, x12, x13, x14, x16, x110 => if x110 = true then (if 0 ≤ x16 then (if x16 < (x12.length : Int) then (papermillref40_Allowed.l0 k x1 x2 x8 x10 (x12.set (x16 : Int).toNat (⟨(rd_T49 x12 x16).f0, x14⟩ : S49)) x14) else (none)) else (none)) else ((papermillref40_splices.f k x8 x13 x1).bind fun t28016 => (if t28016 ≤ x2 then (if x12.length < 8796093022208 then (papermillref40_Allowed.l0 k x1 x2 x8 x10 (x12 ++ [(⟨x13, x14⟩ : S49)]) x14) else (none)) else (papermillref40_Allowed.l0 k x1 x2 x8 x10 x12 x14)))
end
def papermillref40_Allowed.f (k : Nat) (l0 : List (S56)) (a1 : Int) (a2 : Int) : Option ((List (S49)) × Int) := (papermillref40_Places.f k l0).bind fun bt28001 => (if bt28001.2 = 0 then (if a1 < 1 then (papermillref40_Allowed.j0 k l0 a1 a2 bt28001.1 true) else (if a1 > 17179869184 then (papermillref40_Allowed.j0 k l0 a1 a2 bt28001.1 true) else (if a2 < 0 then (papermillref40_Allowed.j0 k l0 a1 a2 bt28001.1 true) else (papermillref40_Allowed.j0 k l0 a1 a2 bt28001.1 (decide (a2 > 8)))))) else (some (([] : List (S49)), bt28001.2)))
theorem papermillref40_Allowed.mono_l : ∀ k, (∀ y0 y1 y2 y3 y4, LeO (papermillref40_Allowed.j0 k y0 y1 y2 y3 y4) (papermillref40_Allowed.j0 (k + 1) y0 y1 y2 y3 y4)) ∧ (∀ y0 y1 y2 y3 y4 y5, LeO (papermillref40_Allowed.l0 k y0 y1 y2 y3 y4 y5) (papermillref40_Allowed.l0 (k + 1) y0 y1 y2 y3 y4 y5)) ∧ (∀ y0 y1 y2 y3 y4 y5 y6 y7, LeO (papermillref40_Allowed.l1 k y0 y1 y2 y3 y4 y5 y6 y7) (papermillref40_Allowed.l1 (k + 1) y0 y1 y2 y3 y4 y5 y6 y7)) ∧ (∀ y0 y1 y2 y3 y4 y5 y6 y7 y8, LeO (papermillref40_Allowed.j3 k y0 y1 y2 y3 y4 y5 y6 y7 y8) (papermillref40_Allowed.j3 (k + 1) y0 y1 y2 y3 y4 y5 y6 y7 y8))
 | 0 => ⟨fun _ _ _ _ _ r h => by simp [papermillref40_Allowed.j0] at h, fun _ _ _ _ _ _ r h => by simp [papermillref40_Allowed.l0] at h, fun _ _ _ _ _ _ _ _ r h => by simp [papermillref40_Allowed.l1] at h, fun _ _ _ _ _ _ _ _ _ r h => by simp [papermillref40_Allowed.j3] at h⟩
 | k + 1 => by
  obtain ⟨ih0, ih1, ih2, ih3⟩ := papermillref40_Allowed.mono_l k
  refine ⟨?_, ?_, ?_, ?_⟩
  ·intro y0 y1 y2 y3 y4
   unfold papermillref40_Allowed.j0
   repeat' first
   | (with_reducible exact ih0 _ _ _ _ _)
   | (with_reducible exact ih1 _ _ _ _ _ _)
   | (with_reducible exact ih2 _ _ _ _ _ _ _ _)
   | (with_reducible exact ih3 _ _ _ _ _ _ _ _ _)
   | (with_reducible exact papermillref13_Length.mono _ _)
   | (with_reducible exact papermillref40_Places.mono _ _)
   | (with_reducible exact papermillref40_splices.mono _ _ _ _)
   | (with_reducible exact LeO.refl _)
   | (with_reducible exact LeO.none _)
   | (with_reducible refine LeO.ite ?_ ?_)
   | (with_reducible refine LeO.bind ?_ (fun _ => ?_))
   | exact ih0 _ _ _ _ _
   | exact ih1 _ _ _ _ _ _
   | exact ih2 _ _ _ _ _ _ _ _
   | exact ih3 _ _ _ _ _ _ _ _ _
   | exact papermillref13_Length.mono _ _
   | exact papermillref40_Places.mono _ _
   | exact papermillref40_splices.mono _ _ _ _
   | exact LeO.none _
   | refine LeO.ite ?_ ?_
   | refine LeO.bind ?_ (fun _ => ?_)
  ·intro y0 y1 y2 y3 y4 y5
   unfold papermillref40_Allowed.l0
   repeat' first
   | (with_reducible exact ih0 _ _ _ _ _)
   | (with_reducible exact ih1 _ _ _ _ _ _)
   | (with_reducible exact ih2 _ _ _ _ _ _ _ _)
   | (with_reducible exact ih3 _ _ _ _ _ _ _ _ _)
   | (with_reducible exact papermillref13_Length.mono _ _)
   | (with_reducible exact papermillref40_Places.mono _ _)
   | (with_reducible exact papermillref40_splices.mono _ _ _ _)
   | (with_reducible exact LeO.refl _)
   | (with_reducible exact LeO.none _)
   | (with_reducible refine LeO.ite ?_ ?_)
   | (with_reducible refine LeO.bind ?_ (fun _ => ?_))
   | exact ih0 _ _ _ _ _
   | exact ih1 _ _ _ _ _ _
   | exact ih2 _ _ _ _ _ _ _ _
   | exact ih3 _ _ _ _ _ _ _ _ _
   | exact papermillref13_Length.mono _ _
   | exact papermillref40_Places.mono _ _
   | exact papermillref40_splices.mono _ _ _ _
   | exact LeO.none _
   | refine LeO.ite ?_ ?_
   | refine LeO.bind ?_ (fun _ => ?_)
  ·intro y0 y1 y2 y3 y4 y5 y6 y7
   unfold papermillref40_Allowed.l1
   repeat' first
   | (with_reducible exact ih0 _ _ _ _ _)
   | (with_reducible exact ih1 _ _ _ _ _ _)
   | (with_reducible exact ih2 _ _ _ _ _ _ _ _)
   | (with_reducible exact ih3 _ _ _ _ _ _ _ _ _)
   | (with_reducible exact papermillref13_Length.mono _ _)
   | (with_reducible exact papermillref40_Places.mono _ _)
   | (with_reducible exact papermillref40_splices.mono _ _ _ _)
   | (with_reducible exact LeO.refl _)
   | (with_reducible exact LeO.none _)
   | (with_reducible refine LeO.ite ?_ ?_)
   | (with_reducible refine LeO.bind ?_ (fun _ => ?_))
   | exact ih0 _ _ _ _ _
   | exact ih1 _ _ _ _ _ _
   | exact ih2 _ _ _ _ _ _ _ _
   | exact ih3 _ _ _ _ _ _ _ _ _
   | exact papermillref13_Length.mono _ _
   | exact papermillref40_Places.mono _ _
   | exact papermillref40_splices.mono _ _ _ _
   | exact LeO.none _
   | refine LeO.ite ?_ ?_
   | refine LeO.bind ?_ (fun _ => ?_)
  ·intro y0 y1 y2 y3 y4 y5 y6 y7 y8
   unfold papermillref40_Allowed.j3
   repeat' first
   | (with_reducible exact ih0 _ _ _ _ _)
   | (with_reducible exact ih1 _ _ _ _ _ _)
   | (with_reducible exact ih2 _ _ _ _ _ _ _ _)
   | (with_reducible exact ih3 _ _ _ _ _ _ _ _ _)
   | (with_reducible exact papermillref13_Length.mono _ _)
   | (with_reducible exact papermillref40_Places.mono _ _)
   | (with_reducible exact papermillref40_splices.mono _ _ _ _)
   | (with_reducible exact LeO.refl _)
   | (with_reducible exact LeO.none _)
   | (with_reducible refine LeO.ite ?_ ?_)
   | (with_reducible refine LeO.bind ?_ (fun _ => ?_))
   | exact ih0 _ _ _ _ _
   | exact ih1 _ _ _ _ _ _
   | exact ih2 _ _ _ _ _ _ _ _
   | exact ih3 _ _ _ _ _ _ _ _ _
   | exact papermillref13_Length.mono _ _
   | exact papermillref40_Places.mono _ _
   | exact papermillref40_splices.mono _ _ _ _
   | exact LeO.none _
   | refine LeO.ite ?_ ?_
   | refine LeO.bind ?_ (fun _ => ?_)
theorem papermillref40_Allowed.mono : ∀ a0 a1 a2 k, LeO (papermillref40_Allowed.f k a0 a1 a2) (papermillref40_Allowed.f (k + 1) a0 a1 a2) := by
 intro a0 a1 a2 k
 obtain ⟨ih0, ih1, ih2, ih3⟩ := papermillref40_Allowed.mono_l k
 unfold papermillref40_Allowed.f
 repeat' first
   | (with_reducible exact ih0 _ _ _ _ _)
   | (with_reducible exact ih1 _ _ _ _ _ _)
   | (with_reducible exact ih2 _ _ _ _ _ _ _ _)
   | (with_reducible exact ih3 _ _ _ _ _ _ _ _ _)
   | (with_reducible exact papermillref13_Length.mono _ _)
   | (with_reducible exact papermillref40_Places.mono _ _)
   | (with_reducible exact papermillref40_splices.mono _ _ _ _)
   | (with_reducible exact LeO.refl _)
   | (with_reducible exact LeO.none _)
   | (with_reducible refine LeO.ite ?_ ?_)
   | (with_reducible refine LeO.bind ?_ (fun _ => ?_))
   | exact ih0 _ _ _ _ _
   | exact ih1 _ _ _ _ _ _
   | exact ih2 _ _ _ _ _ _ _ _
   | exact ih3 _ _ _ _ _ _ _ _ _
   | exact papermillref13_Length.mono _ _
   | exact papermillref40_Places.mono _ _
   | exact papermillref40_splices.mono _ _ _ _
   | exact LeO.none _
   | refine LeO.ite ?_ ?_
   | refine LeO.bind ?_ (fun _ => ?_)
set_option maxHeartbeats 8000000 in
set_option maxRecDepth 100000 in
theorem papermillref40_Allowed.calls (k : Nat) (A0 : Option Addr) (c0 : Nat) (l0 : List (S56)) (a1 : Int) (a2 : Int) (r1 : List (S49)) (r2 : Int) (w : World) (hr0 : Kd.C k56 w A0 l0.length l0) (hc0 : l0.length ≤ c0) (h : papermillref40_Allowed.f k l0 a1 a2 = some (r1, r2)) :
  Calls Try.prog 27 #[.slice A0 l0.length c0, .int .i64 a1, .int .i64 a2] w fun e w' => ∃ v0_ : Value, e = .returned (.tuple #[v0_, .int .i64 r2]) ∧ Kd.R k49 49 w' w.heap.size (fun _ => True) v0_ r1 ∧ Below w.heap.size w w' := by
 have hu49 := Try.underlying49
 have HR0 := Aside0.mk hr0
 have HC0 := Aside0.mk hc0
 clear hr0 hc0
 have HB := Aside0.mk (Below.refl w.heap.size w)
 have H : ((papermillref40_Places.f k l0).bind fun bt28001 => (if bt28001.2 = 0 then (if a1 < 1 then (papermillref40_Allowed.j0 k l0 a1 a2 bt28001.1 true) else (if a1 > 17179869184 then (papermillref40_Allowed.j0 k l0 a1 a2 bt28001.1 true) else (if a2 < 0 then (papermillref40_Allowed.j0 k l0 a1 a2 bt28001.1 true) else (papermillref40_Allowed.j0 k l0 a1 a2 bt28001.1 (decide (a2 > 8)))))) else (some (([] : List (S49)), bt28001.2)))) = some (r1, r2) := h
 clear h
 replace H := Option.bind_eq_some_iff.mp H
 obtain ⟨⟨t28001, t28002⟩, A40, H⟩ := H
 replace H : (if t28002 = 0 then (if a1 < 1 then (papermillref40_Allowed.j0 k l0 a1 a2 t28001 true) else (if a1 > 17179869184 then (papermillref40_Allowed.j0 k l0 a1 a2 t28001 true) else (if a2 < 0 then (papermillref40_Allowed.j0 k l0 a1 a2 t28001 true) else (papermillref40_Allowed.j0 k l0 a1 a2 t28001 (decide (a2 > 8)))))) else (some (([] : List (S49)), t28002))) = some (r1, r2) := H
 have A4 := Aside0.mk A40
 clear A40
 by_cases c5 : t28002 = 0
 ·rw [if_pos c5] at H
  have c5b0 : (t28002 == 0) = true := beq_iff_eq.mpr c5
  have c5b1 : (t28002 != 0) = false := bne_eq_false_iff_eq.mpr c5
  clear c5
  have HC6 := Aside0.mk H
  clear H
  go_enter Try.func27, Try.ntmps27
  go_upto_region 4 with (first | ((with_reducible refine gate_callee (f := 22) rfl ?_); refine goesL_ (some 19) rfl rfl Try.func22 (by kernel_rfl) rfl #[.slice A0 l0.length c0] rfl (by (try simp only [List.map_toArray, List.map_cons, List.map_nil]); first | done | rfl | (simp only [List.length_drop, List.length_take]; rfl)) ?_; (with_reducible refine (papermillref40_Places.calls k _ _ l0 t28001 t28002 _ ?side1 ?side2 A4.out).mono ?_); (case side1 => repeat (first | exact HR0.out | (with_reducible refine Kd.C_alloc ?_ _) | (with_reducible refine Kd.C_drewN ?_ _) | (with_reducible refine Kd.C_drew ?_))); (case side2 => exact HC0.out); rintro e w7 ⟨v28003, rfl, ho0, hb⟩; refine ⟨_, rfl, ?_⟩; have n0_ := Aside0.mk (Kd.R_lower ho0 (below_size (by repeat (first | exact HB.out | apply below_alloc | apply pw_below_drewN | apply below_drew1)))); have n1_ := Aside0.mk (below_step (by repeat (first | exact HB.out | apply below_alloc | apply pw_below_drewN | apply below_drew1)) hb); clear HB; have HO28004 := n0_; have HB := n1_; clear n0_ n1_; (try clear hb); (try clear hb2); (try clear hk); (try clear hi); (try clear ho0)))
  (try simp only [Act.put, List.setIfInBounds_toArray, List.set_cons_zero, List.set_cons_succ])
  go_cut [38] (fun v38 wc => ∃ (kq : Nat) (x38_5 : Bool), v38 = .bool x38_5 ∧ Aside0 (papermillref40_Allowed.j0 kq l0 a1 a2 t28001 x38_5 = some (r1, r2)) ∧ Aside0 (kq ≤ k) ∧ Aside0 (Kd.R (Kd.int .i64) 3 wc w.heap.size (fun _ => True) v28003 t28001) ∧ Aside0 (Below w.heap.size w wc))
  case first =>
   have H := HC6.out
   clear HC6
   by_cases c8 : a1 < 1
   ·rw [if_pos c8] at H
    have c8b0 : decide (a1 < 1) = true := decide_eq_true c8
    clear c8
    (first | rw [c8b0] | (simp only [i64_w, i32_w]; rw [c8b0]) | skip)
    have H' := Aside0.mk H
    clear H
    go_wp2
    go_meet
    case rel => exact ⟨_, (true), (by first | rfl | (simp; done) | (simp [*]; done)), H', ⟨by first | omega | exact Nat.le_refl _⟩, ⟨by (with_reducible repeat (first | apply Kd.R_alloc | apply Kd.R_drewN | apply Kd.R_drew)); exact HO28004.out⟩, ⟨by repeat (first | exact HB.out | apply below_alloc | apply pw_below_drewN | apply below_drew1)⟩⟩
   ·rw [if_neg c8] at H
    have c8b0 : decide (a1 < 1) = false := decide_eq_false c8
    clear c8
    (first | rw [c8b0] | (simp only [i64_w, i32_w]; rw [c8b0]) | skip)
    by_cases c9 : a1 > 17179869184
    ·rw [if_pos c9] at H
     have c9b0 : decide (17179869184 < a1) = true := decide_eq_true c9
     clear c9
     have H' := Aside0.mk H
     clear H
     go_wp2
     go_meet
     case rel => exact ⟨_, (true), (by first | rfl | (simp; done) | (simp [*]; done)), H', ⟨by first | omega | exact Nat.le_refl _⟩, ⟨by (with_reducible repeat (first | apply Kd.R_alloc | apply Kd.R_drewN | apply Kd.R_drew)); exact HO28004.out⟩, ⟨by repeat (first | exact HB.out | apply below_alloc | apply pw_below_drewN | apply below_drew1)⟩⟩
    ·rw [if_neg c9] at H
     have c9b0 : decide (17179869184 < a1) = false := decide_eq_false c9
     clear c9
     by_cases c10 : a2 < 0
     ·rw [if_pos c10] at H
      have c10b0 : decide (a2 < 0) = true := decide_eq_true c10
      clear c10
      have H' := Aside0.mk H
      clear H
      go_wp2
      go_meet
      case rel => exact ⟨_, (true), (by first | rfl | (simp; done) | (simp [*]; done)), H', ⟨by first | omega | exact Nat.le_refl _⟩, ⟨by (with_reducible repeat (first | apply Kd.R_alloc | apply Kd.R_drewN | apply Kd.R_drew)); exact HO28004.out⟩, ⟨by repeat (first | exact HB.out | apply below_alloc | apply pw_below_drewN | apply below_drew1)⟩⟩
     ·rw [if_neg c10] at H
      have c10b0 : decide (a2 < 0) = false := decide_eq_false c10
      clear c10
      have H' := Aside0.mk H
      clear H
      go_wp2
      go_meet
      case rel => exact ⟨_, (decide (a2 > 8)), (by first | rfl | (simp; done) | (simp [*]; done)), H', ⟨by first | omega | exact Nat.le_refl _⟩, ⟨by (with_reducible repeat (first | apply Kd.R_alloc | apply Kd.R_drewN | apply Kd.R_drew)); exact HO28004.out⟩, ⟨by repeat (first | exact HB.out | apply below_alloc | apply pw_below_drewN | apply below_drew1)⟩⟩
  case rest =>
   clear HC6
   try clear c1
   try clear c2
   try clear p2
   try clear c5
   try clear c5b0
   try clear c5b1
   try clear c8
   try clear c8b0
   try clear c9
   try clear c9b0
   try clear c10
   try clear c10b0
   obtain ⟨kq, x38_5, rfl, HA, HJ5, HO_8, HB⟩ := hcut
   cases kq with
   | zero => exact absurd HA.out (by simp [papermillref40_Allowed.j0])
   | succ kj5 =>
    have H := HA.out
    clear HA
    simp only [papermillref40_Allowed.j0] at H
    by_cases c11 : x38_5 = true
    ·subst c11
     have H1 : (some (([] : List (S49)), 1)) = some (r1, r2) := by rw [if_pos rfl] at H; exact H
     clear H
     have H := H1
     clear H1
     simp only [Option.some.injEq, Prod.mk.injEq] at H
     obtain ⟨rfl, rfl⟩ := H
     go_wp2
     go_ret2
     exact ⟨_, by first | rfl | (simp [errW_none, errW_some] <;> rfl) | (simp [*, errW_none, errW_some] <;> rfl), by first | exact Kd.R_nil _ _ _ _ _ | exact Kd.N_nil _ _ _ _ _ | exact Kd.V_nil _ _ _ _ _ | exact Kd.Q_nil _ _ _ _ _ | exact Kd.S_nil _ _ _ _ _, by repeat (first | exact HB.out | apply below_alloc | apply pw_below_drewN | apply below_drew1)⟩
    ·replace c11 := Bool.eq_false_iff.mpr c11
     subst c11
     have H1 : ((papermillref13_Length.f kj5 l0).bind fun bt28005 => (papermillref40_Allowed.l0 kj5 a1 a2 t28001 bt28005.1 ([] : List (S49)) 0)) = some (r1, r2) := by rw [if_neg (show ¬ (false = true) by decide)] at H; first | exact H | simpa using H
     clear H
     have H := H1
     clear H1
     replace H := Option.bind_eq_some_iff.mp H
     obtain ⟨⟨t28005, t28006⟩, A120, H⟩ := H
     replace H : (papermillref40_Allowed.l0 kj5 a1 a2 t28001 t28005 ([] : List (S49)) 0) = some (r1, r2) := H
     have A12 := Aside0.mk A120
     clear A120
     have H' := Aside0.mk H
     clear H
     go_wp2_with (first | ((with_reducible refine gate_callee (f := 44) rfl ?_); refine goesL_ (some 41) rfl rfl Try.func44 (by kernel_rfl) rfl #[.slice A0 l0.length c0] rfl (by (try simp only [List.map_toArray, List.map_cons, List.map_nil]); first | done | rfl | (simp only [List.length_drop, List.length_take]; rfl)) ?_; (with_reducible refine (papermillref13_Length.calls kj5 _ _ l0 t28005 t28006 _ ?side1 ?side2 A12.out).mono ?_); (case side1 => repeat (first | exact (Kd.C_below HR0.out HB.out) | (with_reducible refine Kd.C_alloc ?_ _) | (with_reducible refine Kd.C_drewN ?_ _) | (with_reducible refine Kd.C_drew ?_))); (case side2 => exact HC0.out); rintro e w13 ⟨rfl, hb⟩; refine ⟨_, rfl, ?_⟩; have n0_ := Aside0.mk (Kd.R_below (by (with_reducible repeat (first | apply Kd.R_alloc | apply Kd.R_drewN | apply Kd.R_drew)); exact HO_8.out) hb); have n1_ := Aside0.mk (below_step (by repeat (first | exact HB.out | apply below_alloc | apply pw_below_drewN | apply below_drew1)) hb); clear HO_8; clear HB; have HO_8 := n0_; have HB := n1_; clear n0_ n1_; (try clear hb); (try clear hb2); (try clear hk); (try clear hi)))
     go_loopg [12, 13] kj5 (fun kq v12 v13 w' => ∃ (x12_2 : List (S49)) (x13_2 : Int), v13 = .int .i64 x13_2 ∧ Aside0 (papermillref40_Allowed.l0 kq a1 a2 t28001 t28005 x12_2 x13_2 = some (r1, r2)) ∧ Aside0 (kq ≤ kj5) ∧ Aside0 (Kd.R (Kd.int .i64) 3 w' w.heap.size (fun _ => True) v28003 t28001) ∧ Aside0 (Kd.R k49 49 w' w.heap.size (fun _ => True) v12 x12_2) ∧ Aside0 (Below w.heap.size w w'))
     case atStart => exact ⟨(([] : List (S49))), (0), (by first | rfl | (simp; done) | (simp [*]; done)), H', ⟨Nat.le_refl _⟩, ⟨by (with_reducible repeat (first | apply Kd.R_alloc | apply Kd.R_drewN | apply Kd.R_drew)); exact HO_8.out⟩, ⟨by first | exact Kd.R_nil _ _ _ _ _ | exact Kd.N_nil _ _ _ _ _ | exact Kd.V_nil _ _ _ _ _ | exact Kd.Q_nil _ _ _ _ _ | exact Kd.S_nil _ _ _ _ _⟩, ⟨by repeat (first | exact HB.out | apply below_alloc | apply pw_below_drewN | apply below_drew1)⟩⟩
     case round =>
      clear H'
      try clear c1
      try clear c2
      try clear p2
      try clear c4
      try clear c5
      try clear c5b0
      try clear c5b1
      try clear c8
      try clear c8b0
      try clear c9
      try clear c9b0
      try clear c10
      try clear c10b0
      try clear c11
      try clear p2
      obtain ⟨x12_2, x13_2, rfl, HA, HK2, HO_8, HO_12, HB⟩ := hrel
      cases gk with
      | zero => exact absurd HA.out (by simp [papermillref40_Allowed.l0])
      | succ k2 =>
       have H := HA.out
       clear HA
       simp only [papermillref40_Allowed.l0] at H
       by_cases c14 : x13_2 ≤ (wrap64 (t28005 - a1))
       ·rw [if_pos c14] at H
        have c14b0 : decide (x13_2 ≤ (wrap64 (t28005 - a1))) = true := decide_eq_true c14
        clear c14
        have H' := Aside0.mk H
        clear H
        go_wp2
        go_loopg [14, 15] k2 (fun kq v14 v15 w' => ∃ (x14_3 : Int) (x15_3 : Int), v14 = .int .i64 x14_3 ∧ v15 = .int .i64 x15_3 ∧ Aside0 (papermillref40_Allowed.l1 kq a1 a2 t28001 t28005 x12_2 x13_2 x14_3 x15_3 = some (r1, r2)) ∧ Aside0 (kq ≤ k2) ∧ Aside0 (Kd.R (Kd.int .i64) 3 w' w.heap.size (fun _ => True) v28003 t28001) ∧ Aside0 (Kd.R k49 49 w' w.heap.size (fun _ => True) u12 x12_2) ∧ Aside0 (Below w.heap.size w w'))
        case atStart => exact ⟨(wrap64 ((wrap64 (t28005 - a1)) + 1)), (0), (by first | rfl | (simp; done) | (simp [*]; done)), (by first | rfl | (simp; done) | (simp [*]; done)), H', ⟨Nat.le_refl _⟩, ⟨by (with_reducible repeat (first | apply Kd.R_alloc | apply Kd.R_drewN | apply Kd.R_drew)); exact HO_8.out⟩, ⟨by (with_reducible repeat (first | apply Kd.R_alloc | apply Kd.R_drewN | apply Kd.R_drew)); exact HO_12.out⟩, ⟨by repeat (first | exact HB.out | apply below_alloc | apply pw_below_drewN | apply below_drew1)⟩⟩
        case round =>
         clear H'
         try clear c1
         try clear c2
         try clear p2
         try clear c4
         try clear c5
         try clear c5b0
         try clear c5b1
         try clear p6
         try clear c8
         try clear c8b0
         try clear c9
         try clear c9b0
         try clear c10
         try clear c10b0
         try clear c11
         try clear c14
         try clear c14b0
         try clear p2
         obtain ⟨x14_3, x15_3, rfl, rfl, HA, HK3, HO_8, HO_12, HB⟩ := hrel
         cases gk with
         | zero => exact absurd HA.out (by simp [papermillref40_Allowed.l1])
         | succ k3 =>
          have H := HA.out
          clear HA
          simp only [papermillref40_Allowed.l1] at H
          by_cases c15 : x15_3 < (t28001.length : Int)
          ·rw [if_pos c15] at H
           have c15b0 : decide (x15_3 < (t28001.length : Int)) = true := decide_eq_true c15
           clear c15
           by_cases c16 : 0 ≤ x15_3
           ·rw [if_pos c16] at H
            have c16b0 : decide (0 ≤ x15_3) = true := decide_eq_true c16
            clear c16
            by_cases c17 : (rd t28001 x15_3) > x13_2
            ·rw [if_pos c17] at H
             have c17b0 : decide (x13_2 < (rd t28001 x15_3)) = true := decide_eq_true c17
             clear c17
             obtain ⟨ji18, hji18⟩ : ∃ j_ : Int, (mn x14_3 (rd t28001 x15_3)) = j_ := ⟨_, rfl⟩
             replace H : (if (wrap64 ((wrap64 ((rd t28001 x15_3) - a1)) + 1)) > x13_2 then (papermillref40_Allowed.l1 k3 a1 a2 t28001 t28005 x12_2 x13_2 (mn (ji18) (wrap64 ((wrap64 ((rd t28001 x15_3) - a1)) + 1))) (wrap64 (x15_3 + 1))) else (papermillref40_Allowed.l1 k3 a1 a2 t28001 t28005 x12_2 x13_2 ji18 (wrap64 (x15_3 + 1)))) = some (r1, r2) := by first | (rw [hji18] at H; exact H) | (simp only [hji18] at H ⊢; exact H)
             have hji18_ : (if (rd t28001 x15_3) < x14_3 then (rd t28001 x15_3) else x14_3) = ji18 := hji18
             by_cases c19 : (wrap64 ((wrap64 ((rd t28001 x15_3) - a1)) + 1)) > x13_2
             ·rw [if_pos c19] at H
              have c19b0 : decide (x13_2 < (wrap64 ((wrap64 ((rd t28001 x15_3) - a1)) + 1))) = true := decide_eq_true c19
              clear c19
              obtain ⟨ji20, hji20⟩ : ∃ j_ : Int, (mn (ji18) (wrap64 ((wrap64 ((rd t28001 x15_3) - a1)) + 1))) = j_ := ⟨_, rfl⟩
              replace H : (papermillref40_Allowed.l1 k3 a1 a2 t28001 t28005 x12_2 x13_2 ji20 (wrap64 (x15_3 + 1))) = some (r1, r2) := by first | (rw [hji20] at H; exact H) | (simp only [hji20] at H ⊢; exact H)
              have hji20_ : (if (wrap64 ((wrap64 ((rd t28001 x15_3) - a1)) + 1)) < (ji18) then (wrap64 ((wrap64 ((rd t28001 x15_3) - a1)) + 1)) else (ji18)) = ji20 := hji20
              have H' := Aside0.mk H
              clear H
              obtain ⟨Ao21, co21, eo21⟩ := Kd.R_slice HO_8.out
              subst eo21
              have p28007 : 0 ≤ (x15_3 : Int) := of_decide_eq_true (by assumption)
              have q28007 : x15_3 < (t28001.length : Int) := of_decide_eq_true (by assumption)
              obtain ⟨ad28007, e28007, hx28007_0⟩ := Kd.at_int (Kd.R_reads' HO_8.out).2.2 x15_3 p28007 q28007
              cases e28007
              replace p28007 := eq_true p28007
              replace q28007 := eq_true q28007
              have p28008 : 0 ≤ (x15_3 : Int) := of_decide_eq_true (by assumption)
              have q28008 : x15_3 < (t28001.length : Int) := of_decide_eq_true (by assumption)
              obtain ⟨ad28008, e28008, hx28008_0⟩ := Kd.at_int (Kd.R_reads' HO_8.out).2.2 x15_3 p28008 q28008
              obtain rfl : ad28007 = ad28008 := (by injection e28008)
              replace p28008 := eq_true p28008
              replace q28008 := eq_true q28008
              have p28009 : 0 ≤ (x15_3 : Int) := of_decide_eq_true (by assumption)
              have q28009 : x15_3 < (t28001.length : Int) := of_decide_eq_true (by assumption)
              obtain ⟨ad28009, e28009, hx28009_0⟩ := Kd.at_int (Kd.R_reads' HO_8.out).2.2 x15_3 p28009 q28009
              obtain rfl : ad28007 = ad28009 := (by injection e28009)
              replace p28009 := eq_true p28009
              replace q28009 := eq_true q28009
              have p28010 : 0 ≤ (x15_3 : Int) := of_decide_eq_true (by assumption)
              have q28010 : x15_3 < (t28001.length : Int) := of_decide_eq_true (by assumption)
              obtain ⟨ad28010, e28010, hx28010_0⟩ := Kd.at_int (Kd.R_reads' HO_8.out).2.2 x15_3 p28010 q28010
              obtain rfl : ad28007 = ad28010 := (by injection e28010)
              replace p28010 := eq_true p28010
              replace q28010 := eq_true q28010
              go_wp2
              go_roundg k3
              case measure => have := HJ5.out; have := HK2.out; have := HK3.out; omega
              case rel => exact ⟨(ji20), (wrap64 (x15_3 + 1)), (by first | rfl | (simp; done) | (simp only [← hji20] <;> (first | rfl | (simp; done))) | (simp [*]; done)), (by first | rfl | (simp; done) | (simp [*]; done)), H', ⟨by have := HJ5.out; have := HK2.out; have := HK3.out; omega⟩, ⟨by (with_reducible repeat (first | apply Kd.R_alloc | apply Kd.R_drewN | apply Kd.R_drew)); exact HO_8.out⟩, ⟨by (with_reducible repeat (first | apply Kd.R_alloc | apply Kd.R_drewN | apply Kd.R_drew)); exact HO_12.out⟩, ⟨by repeat (first | exact HB.out | apply below_alloc | apply pw_below_drewN | apply below_drew1)⟩⟩
             ·rw [if_neg c19] at H
              have c19b0 : decide (x13_2 < (wrap64 ((wrap64 ((rd t28001 x15_3) - a1)) + 1))) = false := decide_eq_false c19
              clear c19
              have H' := Aside0.mk H
              clear H
              obtain ⟨Ao22, co22, eo22⟩ := Kd.R_slice HO_8.out
              subst eo22
              have p28007 : 0 ≤ (x15_3 : Int) := of_decide_eq_true (by assumption)
              have q28007 : x15_3 < (t28001.length : Int) := of_decide_eq_true (by assumption)
              obtain ⟨ad28007, e28007, hx28007_0⟩ := Kd.at_int (Kd.R_reads' HO_8.out).2.2 x15_3 p28007 q28007
              cases e28007
              replace p28007 := eq_true p28007
              replace q28007 := eq_true q28007
              have p28008 : 0 ≤ (x15_3 : Int) := of_decide_eq_true (by assumption)
              have q28008 : x15_3 < (t28001.length : Int) := of_decide_eq_true (by assumption)
              obtain ⟨ad28008, e28008, hx28008_0⟩ := Kd.at_int (Kd.R_reads' HO_8.out).2.2 x15_3 p28008 q28008
              obtain rfl : ad28007 = ad28008 := (by injection e28008)
              replace p28008 := eq_true p28008
              replace q28008 := eq_true q28008
              have p28009 : 0 ≤ (x15_3 : Int) := of_decide_eq_true (by assumption)
              have q28009 : x15_3 < (t28001.length : Int) := of_decide_eq_true (by assumption)
              obtain ⟨ad28009, e28009, hx28009_0⟩ := Kd.at_int (Kd.R_reads' HO_8.out).2.2 x15_3 p28009 q28009
              obtain rfl : ad28007 = ad28009 := (by injection e28009)
              replace p28009 := eq_true p28009
              replace q28009 := eq_true q28009
              go_wp2
              go_roundg k3
              case measure => have := HJ5.out; have := HK2.out; have := HK3.out; omega
              case rel => exact ⟨(ji18), (wrap64 (x15_3 + 1)), (by first | rfl | (simp; done) | (simp only [← hji18] <;> (first | rfl | (simp; done))) | (simp [*]; done)), (by first | rfl | (simp; done) | (simp [*]; done)), H', ⟨by have := HJ5.out; have := HK2.out; have := HK3.out; omega⟩, ⟨by (with_reducible repeat (first | apply Kd.R_alloc | apply Kd.R_drewN | apply Kd.R_drew)); exact HO_8.out⟩, ⟨by (with_reducible repeat (first | apply Kd.R_alloc | apply Kd.R_drewN | apply Kd.R_drew)); exact HO_12.out⟩, ⟨by repeat (first | exact HB.out | apply below_alloc | apply pw_below_drewN | apply below_drew1)⟩⟩
            ·rw [if_neg c17] at H
             have c17b0 : decide (x13_2 < (rd t28001 x15_3)) = false := decide_eq_false c17
             clear c17
             by_cases c23 : (wrap64 ((wrap64 ((rd t28001 x15_3) - a1)) + 1)) > x13_2
             ·rw [if_pos c23] at H
              have c23b0 : decide (x13_2 < (wrap64 ((wrap64 ((rd t28001 x15_3) - a1)) + 1))) = true := decide_eq_true c23
              clear c23
              obtain ⟨ji24, hji24⟩ : ∃ j_ : Int, (mn x14_3 (wrap64 ((wrap64 ((rd t28001 x15_3) - a1)) + 1))) = j_ := ⟨_, rfl⟩
              replace H : (papermillref40_Allowed.l1 k3 a1 a2 t28001 t28005 x12_2 x13_2 ji24 (wrap64 (x15_3 + 1))) = some (r1, r2) := by first | (rw [hji24] at H; exact H) | (simp only [hji24] at H ⊢; exact H)
              have hji24_ : (if (wrap64 ((wrap64 ((rd t28001 x15_3) - a1)) + 1)) < x14_3 then (wrap64 ((wrap64 ((rd t28001 x15_3) - a1)) + 1)) else x14_3) = ji24 := hji24
              have H' := Aside0.mk H
              clear H
              obtain ⟨Ao25, co25, eo25⟩ := Kd.R_slice HO_8.out
              subst eo25
              have p28007 : 0 ≤ (x15_3 : Int) := of_decide_eq_true (by assumption)
              have q28007 : x15_3 < (t28001.length : Int) := of_decide_eq_true (by assumption)
              obtain ⟨ad28007, e28007, hx28007_0⟩ := Kd.at_int (Kd.R_reads' HO_8.out).2.2 x15_3 p28007 q28007
              cases e28007
              replace p28007 := eq_true p28007
              replace q28007 := eq_true q28007
              have p28011 : 0 ≤ (x15_3 : Int) := of_decide_eq_true (by assumption)
              have q28011 : x15_3 < (t28001.length : Int) := of_decide_eq_true (by assumption)
              obtain ⟨ad28011, e28011, hx28011_0⟩ := Kd.at_int (Kd.R_reads' HO_8.out).2.2 x15_3 p28011 q28011
              obtain rfl : ad28007 = ad28011 := (by injection e28011)
              replace p28011 := eq_true p28011
              replace q28011 := eq_true q28011
              have p28012 : 0 ≤ (x15_3 : Int) := of_decide_eq_true (by assumption)
              have q28012 : x15_3 < (t28001.length : Int) := of_decide_eq_true (by assumption)
              obtain ⟨ad28012, e28012, hx28012_0⟩ := Kd.at_int (Kd.R_reads' HO_8.out).2.2 x15_3 p28012 q28012
              obtain rfl : ad28007 = ad28012 := (by injection e28012)
              replace p28012 := eq_true p28012
              replace q28012 := eq_true q28012
              go_wp2
              go_roundg k3
              case measure => have := HJ5.out; have := HK2.out; have := HK3.out; omega
              case rel => exact ⟨(ji24), (wrap64 (x15_3 + 1)), (by first | rfl | (simp; done) | (simp only [← hji24] <;> (first | rfl | (simp; done))) | (simp [*]; done)), (by first | rfl | (simp; done) | (simp [*]; done)), H', ⟨by have := HJ5.out; have := HK2.out; have := HK3.out; omega⟩, ⟨by (with_reducible repeat (first | apply Kd.R_alloc | apply Kd.R_drewN | apply Kd.R_drew)); exact HO_8.out⟩, ⟨by (with_reducible repeat (first | apply Kd.R_alloc | apply Kd.R_drewN | apply Kd.R_drew)); exact HO_12.out⟩, ⟨by repeat (first | exact HB.out | apply below_alloc | apply pw_below_drewN | apply below_drew1)⟩⟩
             ·rw [if_neg c23] at H
              have c23b0 : decide (x13_2 < (wrap64 ((wrap64 ((rd t28001 x15_3) - a1)) + 1))) = false := decide_eq_false c23
              clear c23
              have H' := Aside0.mk H
              clear H
              obtain ⟨Ao26, co26, eo26⟩ := Kd.R_slice HO_8.out
              subst eo26
              have p28007 : 0 ≤ (x15_3 : Int) := of_decide_eq_true (by assumption)
              have q28007 : x15_3 < (t28001.length : Int) := of_decide_eq_true (by assumption)
              obtain ⟨ad28007, e28007, hx28007_0⟩ := Kd.at_int (Kd.R_reads' HO_8.out).2.2 x15_3 p28007 q28007
              cases e28007
              replace p28007 := eq_true p28007
              replace q28007 := eq_true q28007
              have p28011 : 0 ≤ (x15_3 : Int) := of_decide_eq_true (by assumption)
              have q28011 : x15_3 < (t28001.length : Int) := of_decide_eq_true (by assumption)
              obtain ⟨ad28011, e28011, hx28011_0⟩ := Kd.at_int (Kd.R_reads' HO_8.out).2.2 x15_3 p28011 q28011
              obtain rfl : ad28007 = ad28011 := (by injection e28011)
              replace p28011 := eq_true p28011
              replace q28011 := eq_true q28011
              go_wp2
              go_roundg k3
              case measure => have := HJ5.out; have := HK2.out; have := HK3.out; omega
              case rel => exact ⟨(x14_3), (wrap64 (x15_3 + 1)), (by first | rfl | (simp; done) | (simp [*]; done)), (by first | rfl | (simp; done) | (simp [*]; done)), H', ⟨by have := HJ5.out; have := HK2.out; have := HK3.out; omega⟩, ⟨by (with_reducible repeat (first | apply Kd.R_alloc | apply Kd.R_drewN | apply Kd.R_drew)); exact HO_8.out⟩, ⟨by (with_reducible repeat (first | apply Kd.R_alloc | apply Kd.R_drewN | apply Kd.R_drew)); exact HO_12.out⟩, ⟨by repeat (first | exact HB.out | apply below_alloc | apply pw_below_drewN | apply below_drew1)⟩⟩
           ·rw [if_neg c16] at H
            exact absurd H (by simp)
          ·rw [if_neg c15] at H
           have c15b0 : decide (x15_3 < (t28001.length : Int)) = false := decide_eq_false c15
           clear c15
           have HC27 := Aside0.mk H
           clear H
           obtain ⟨Ao28, co28, eo28⟩ := Kd.R_slice HO_8.out
           subst eo28
           obtain ⟨Ao29, co29, eo29⟩ := Kd.R_slice HO_12.out
           subst eo29
           go_upto_region 19 with (fail)
           go_cut [110] (fun v110 wc => ∃ (kq : Nat) (x110_26 : Bool), v110 = .bool x110_26 ∧ Aside0 (papermillref40_Allowed.j3 kq a1 a2 t28001 t28005 x12_2 x13_2 x14_3 (wrap64 ((x12_2.length : Int) - 1)) x110_26 = some (r1, r2)) ∧ Aside0 (kq ≤ k3) ∧ Aside0 (Kd.R (Kd.int .i64) 3 wc w.heap.size (fun _ => True) (.slice Ao28 t28001.length co28) t28001) ∧ Aside0 (Kd.R k49 49 wc w.heap.size (fun _ => True) (.slice Ao29 x12_2.length co29) x12_2) ∧ Aside0 (Below w.heap.size w wc))
           case first =>
            have H := HC27.out
            clear HC27
            replace H := Option.bind_eq_some_iff.mp H
            obtain ⟨t28013, A300, H⟩ := H
            replace H : (if t28013 ≤ a2 then (if (wrap64 ((x12_2.length : Int) - 1)) ≥ 0 then (if 0 ≤ (wrap64 ((x12_2.length : Int) - 1)) then (if (wrap64 ((x12_2.length : Int) - 1)) < (x12_2.length : Int) then (papermillref40_Allowed.j3 k3 a1 a2 t28001 t28005 x12_2 x13_2 x14_3 (wrap64 ((x12_2.length : Int) - 1)) (((rd_T49 x12_2 (wrap64 ((x12_2.length : Int) - 1))).f1) == x13_2)) else (none)) else (none)) else (papermillref40_Allowed.j3 k3 a1 a2 t28001 t28005 x12_2 x13_2 x14_3 (wrap64 ((x12_2.length : Int) - 1)) false)) else (papermillref40_Allowed.j3 k3 a1 a2 t28001 t28005 x12_2 x13_2 x14_3 (wrap64 ((x12_2.length : Int) - 1)) false)) = some (r1, r2) := H
            have A30 := Aside0.mk A300
            clear A300
            by_cases c31 : t28013 ≤ a2
            ·rw [if_pos c31] at H
             have c31b0 : decide (t28013 ≤ a2) = true := decide_eq_true c31
             clear c31
             (first | rw [c31b0] | (simp only [i64_w, i32_w]; rw [c31b0]) | skip)
             by_cases c32 : (wrap64 ((x12_2.length : Int) - 1)) ≥ 0
             ·rw [if_pos c32] at H
              have c32b0 : decide (0 ≤ (wrap64 ((x12_2.length : Int) - 1))) = true := decide_eq_true c32
              clear c32
              obtain ⟨ji33, hji33⟩ : ∃ j_ : Int, (wrap64 ((x12_2.length : Int) - 1)) = j_ := ⟨_, rfl⟩
              replace H : (if 0 ≤ (ji33) then (if (ji33) < (x12_2.length : Int) then (papermillref40_Allowed.j3 k3 a1 a2 t28001 t28005 x12_2 x13_2 x14_3 ji33 (((rd_T49 x12_2 (ji33)).f1) == x13_2)) else (none)) else (none)) = some (r1, r2) := by first | (rw [hji33] at H; exact H) | (simp only [hji33] at H ⊢; exact H)
              (try rw [hji33] at c32b0)
              (try rw [hji33] at A30)
              have hji33w : (IntKind.i64.wrap ((x12_2.length : Int) - 1)) = ji33 := (i64_w _).trans hji33
              by_cases c34 : 0 ≤ (ji33)
              ·rw [if_pos c34] at H
               have c34b0 : decide (0 ≤ (ji33)) = true := decide_eq_true c34
               clear c34
               by_cases c35 : (ji33) < (x12_2.length : Int)
               ·rw [if_pos c35] at H
                have c35b0 : decide ((ji33) < (x12_2.length : Int)) = true := decide_eq_true c35
                clear c35
                have H' := Aside0.mk H
                clear H
                go_wp2_with (first | ((with_reducible refine gate_callee (f := 45) rfl ?_); refine goesL_ (some 95) rfl rfl Try.func45 (by kernel_rfl) rfl #[.slice Ao28 t28001.length co28, .int .i64 x13_2, .int .i64 a1] rfl (by (try simp only [List.map_toArray, List.map_cons, List.map_nil]); first | done | rfl | (simp only [List.length_drop, List.length_take]; rfl)) ?_; (with_reducible refine (papermillref40_splices.calls k3 _ _ t28001 x13_2 a1 t28013 _ ?side1 ?side2 A30.out).mono ?_); (case side1 => repeat (first | exact (Kd.R_reads' HO_8.out).2.2 | (with_reducible refine Kd.C_alloc ?_ _) | (with_reducible refine Kd.C_drewN ?_ _) | (with_reducible refine Kd.C_drew ?_))); (case side2 => exact (Kd.R_reads' HO_8.out).2.1); rintro e w' ⟨rfl, ⟨nd, rfl⟩⟩; refine ⟨_, rfl, ?_⟩; have p28014 : 0 ≤ ((ji33) : Int) := of_decide_eq_true (by assumption); have q28014 : (ji33) < (x12_2.length : Int) := of_decide_eq_true (by assumption); obtain ⟨ad28014, e28014, hx28014_0, hx28014_1⟩ := at_T49 (Kd.R_reads' HO_12.out).2.2 (ji33) p28014 q28014; cases e28014; replace p28014 := eq_true p28014; replace q28014 := eq_true q28014))
                (try rw [← hji33])
                go_meet
                case rel => exact ⟨_, ((((rd_T49 x12_2 (ji33)).f1) == x13_2)), (by first | rfl | (simp; done) | (simp only [← hji33] <;> (first | rfl | (simp; done))) | (simp [*]; done)), (by first | exact H' | (rw [hji33]; exact H')), ⟨by have := HJ5.out; have := HK2.out; have := HK3.out; first | omega | exact Nat.le_refl _⟩, ⟨by (with_reducible repeat (first | apply Kd.R_alloc | apply Kd.R_drewN | apply Kd.R_drew)); exact HO_8.out⟩, ⟨by (with_reducible repeat (first | apply Kd.R_alloc | apply Kd.R_drewN | apply Kd.R_drew)); exact HO_12.out⟩, ⟨by repeat (first | exact HB.out | apply below_alloc | apply pw_below_drewN | apply below_drew1)⟩⟩
               ·rw [if_neg c35] at H
                exact absurd H (by simp)
              ·rw [if_neg c34] at H
               exact absurd H (by simp)
             ·rw [if_neg c32] at H
              have c32b0 : decide (0 ≤ (wrap64 ((x12_2.length : Int) - 1))) = false := decide_eq_false c32
              clear c32
              have H' := Aside0.mk H
              clear H
              go_wp2_with (first | ((with_reducible refine gate_callee (f := 45) rfl ?_); refine goesL_ (some 95) rfl rfl Try.func45 (by kernel_rfl) rfl #[.slice Ao28 t28001.length co28, .int .i64 x13_2, .int .i64 a1] rfl (by (try simp only [List.map_toArray, List.map_cons, List.map_nil]); first | done | rfl | (simp only [List.length_drop, List.length_take]; rfl)) ?_; (with_reducible refine (papermillref40_splices.calls k3 _ _ t28001 x13_2 a1 t28013 _ ?side1 ?side2 A30.out).mono ?_); (case side1 => repeat (first | exact (Kd.R_reads' HO_8.out).2.2 | (with_reducible refine Kd.C_alloc ?_ _) | (with_reducible refine Kd.C_drewN ?_ _) | (with_reducible refine Kd.C_drew ?_))); (case side2 => exact (Kd.R_reads' HO_8.out).2.1); rintro e w' ⟨rfl, ⟨nd, rfl⟩⟩; refine ⟨_, rfl, ?_⟩))
              go_meet
              case rel => exact ⟨_, (false), (by first | rfl | (simp; done) | (simp [*]; done)), H', ⟨by have := HJ5.out; have := HK2.out; have := HK3.out; first | omega | exact Nat.le_refl _⟩, ⟨by (with_reducible repeat (first | apply Kd.R_alloc | apply Kd.R_drewN | apply Kd.R_drew)); exact HO_8.out⟩, ⟨by (with_reducible repeat (first | apply Kd.R_alloc | apply Kd.R_drewN | apply Kd.R_drew)); exact HO_12.out⟩, ⟨by repeat (first | exact HB.out | apply below_alloc | apply pw_below_drewN | apply below_drew1)⟩⟩
            ·rw [if_neg c31] at H
             have c31b0 : decide (t28013 ≤ a2) = false := decide_eq_false c31
             clear c31
             (first | rw [c31b0] | (simp only [i64_w, i32_w]; rw [c31b0]) | skip)
             have H' := Aside0.mk H
             clear H
             go_wp2_with (first | ((with_reducible refine gate_callee (f := 45) rfl ?_); refine goesL_ (some 95) rfl rfl Try.func45 (by kernel_rfl) rfl #[.slice Ao28 t28001.length co28, .int .i64 x13_2, .int .i64 a1] rfl (by (try simp only [List.map_toArray, List.map_cons, List.map_nil]); first | done | rfl | (simp only [List.length_drop, List.length_take]; rfl)) ?_; (with_reducible refine (papermillref40_splices.calls k3 _ _ t28001 x13_2 a1 t28013 _ ?side1 ?side2 A30.out).mono ?_); (case side1 => repeat (first | exact (Kd.R_reads' HO_8.out).2.2 | (with_reducible refine Kd.C_alloc ?_ _) | (with_reducible refine Kd.C_drewN ?_ _) | (with_reducible refine Kd.C_drew ?_))); (case side2 => exact (Kd.R_reads' HO_8.out).2.1); rintro e w' ⟨rfl, ⟨nd, rfl⟩⟩; refine ⟨_, rfl, ?_⟩))
             go_meet
             case rel => exact ⟨_, (false), (by first | rfl | (simp; done) | (simp [*]; done)), H', ⟨by have := HJ5.out; have := HK2.out; have := HK3.out; first | omega | exact Nat.le_refl _⟩, ⟨by (with_reducible repeat (first | apply Kd.R_alloc | apply Kd.R_drewN | apply Kd.R_drew)); exact HO_8.out⟩, ⟨by (with_reducible repeat (first | apply Kd.R_alloc | apply Kd.R_drewN | apply Kd.R_drew)); exact HO_12.out⟩, ⟨by repeat (first | exact HB.out | apply below_alloc | apply pw_below_drewN | apply below_drew1)⟩⟩
           case rest =>
            clear HC27
            try clear c1
            try clear c2
            try clear p2
            try clear q2
            try clear hx2
            try clear c3
            try clear c4
            try clear c5
            try clear c5b0
            try clear c5b1
            try clear p6
            try clear c8
            try clear c8b0
            try clear c9
            try clear c9b0
            try clear c10
            try clear c10b0
            try clear c11
            try clear c14
            try clear c14b0
            try clear c15
            try clear c15b0
            try clear c16
            try clear c16b0
            try clear c17
            try clear c17b0
            try clear c19
            try clear c19b0
            try clear c22
            try clear c23
            try clear c23b0
            try clear c27
            try clear p28
            try clear q28
            try clear hx28
            try clear c31
            try clear c31b0
            try clear c32
            try clear c32b0
            try clear c34
            try clear c34b0
            try clear c35
            try clear c35b0
            try clear hx28007_0
            try clear hx28008_0
            try clear hx28009_0
            try clear hx28010_0
            try clear hx28011_0
            try clear hx28012_0
            try clear hx28014_0
            try clear hx28014_1
            try clear p2
            try clear p28007
            try clear p28008
            try clear p28009
            try clear p28010
            try clear p28011
            try clear p28012
            try clear p28014
            try clear p6
            try clear q28007
            try clear q28008
            try clear q28009
            try clear q28010
            try clear q28011
            try clear q28012
            try clear q28014
            obtain ⟨kq, x110_26, rfl, HA, HJ26, HO_8, HO_12, HB⟩ := hcut
            cases kq with
            | zero => exact absurd HA.out (by simp [papermillref40_Allowed.j3])
            | succ kj26 =>
             have H := HA.out
             clear HA
             simp only [papermillref40_Allowed.j3] at H
             by_cases c36 : x110_26 = true
             ·subst c36
              have H1 : (if 0 ≤ (wrap64 ((x12_2.length : Int) - 1)) then (if (wrap64 ((x12_2.length : Int) - 1)) < (x12_2.length : Int) then (papermillref40_Allowed.l0 kj26 a1 a2 t28001 t28005 (x12_2.set ((wrap64 ((x12_2.length : Int) - 1)) : Int).toNat (⟨(rd_T49 x12_2 (wrap64 ((x12_2.length : Int) - 1))).f0, x14_3⟩ : S49)) x14_3) else (none)) else (none)) = some (r1, r2) := by rw [if_pos rfl] at H; exact H
              clear H
              have H := H1
              clear H1
              obtain ⟨ji37, hji37⟩ : ∃ j_ : Int, (wrap64 ((x12_2.length : Int) - 1)) = j_ := ⟨_, rfl⟩
              replace H : (if 0 ≤ (ji37) then (if (ji37) < (x12_2.length : Int) then (papermillref40_Allowed.l0 kj26 a1 a2 t28001 t28005 (x12_2.set ((ji37) : Int).toNat (⟨(rd_T49 x12_2 (ji37)).f0, x14_3⟩ : S49)) x14_3) else (none)) else (none)) = some (r1, r2) := by first | (rw [hji37] at H; exact H) | (simp only [hji37] at H ⊢; exact H)
              have hji37w : (IntKind.i64.wrap ((x12_2.length : Int) - 1)) = ji37 := (i64_w _).trans hji37
              by_cases c38 : 0 ≤ (ji37)
              ·rw [if_pos c38] at H
               have c38b0 : decide (0 ≤ (ji37)) = true := decide_eq_true c38
               clear c38
               by_cases c39 : (ji37) < (x12_2.length : Int)
               ·rw [if_pos c39] at H
                have c39b0 : decide ((ji37) < (x12_2.length : Int)) = true := decide_eq_true c39
                clear c39
                obtain ⟨y28015, hy28015⟩ : ∃ y_ : List (S49), y_ = (x12_2.set ((ji37) : Int).toNat (⟨(rd_T49 x12_2 (ji37)).f0, x14_3⟩ : S49)) := ⟨_, rfl⟩
                replace H : (papermillref40_Allowed.l0 kj26 a1 a2 t28001 t28005 y28015 x14_3) = some (r1, r2) := by first | (rw [hy28015]; with_reducible exact H) | (have H2_ := (Option.bind_some _ _).symm.trans H; rw [hy28015]; with_reducible exact H2_) | (have H2_ := (Option.bind_some _ _).symm.trans H; with_reducible exact H2_) | with_reducible exact H | (rw [hy28015]; exact H) | exact H
                have Ny28015 := Aside0.mk hy28015
                clear hy28015
                have H' := Aside0.mk H
                clear H
                have p40 : 0 ≤ ((ji37) : Int) := of_decide_eq_true (by assumption)
                have q40 : ((ji37) : Int) < ((x12_2.length : Int) : Int) := of_decide_eq_true (by assumption)
                obtain ⟨go40, co40, eo40, gb40, gl40, cl40, HG40⟩ := Kd.R_form HO_12.out (by omega)
                (first | cases eo40 | (injection eo40 with ea_ en_ ec_; (first | subst ea_ | (injection ea_ with ea_; subst ea_)); subst ec_; clear en_))
                have GB40 := Aside0.mk gb40
                have GG40 := Aside0.mk HG40
                clear gb40 gl40 HG40
                obtain ⟨ce40, hcl40, hM40, hcc40, hfr40⟩ := Kd.R_elem HO_12.out z49 ((ji37) : Int) p40 q40
                obtain rfl := k49_openM hM40
                have hx40_0 : wc.cell? ⟨go40, ((ji37) : Int).toNat * 2, none⟩ = some (.int .i64 ((rd_T49 x12_2 (ji37)).f0)) := hcc40 0 _ rfl
                have hx40_1 : wc.cell? ⟨go40, ((ji37) : Int).toNat * 2 + 1, none⟩ = some (.int .i64 ((rd_T49 x12_2 (ji37)).f1)) := hcc40 1 _ rfl
                have hf40_0 : wc.frozen? ⟨go40, ((ji37) : Int).toNat * 2, none⟩ = false := hfr40 0
                have hf40_1 : wc.frozen? ⟨go40, ((ji37) : Int).toNat * 2 + 1, none⟩ = false := hfr40 1
                clear hcl40 hcc40 hfr40 hM40
                replace p40 := eq_true p40
                replace q40 := eq_true q40
                have HX41 := Aside0.mk (show Kd.R k49 49 wc w.heap.size (fun _ => True) (.slice (some ⟨go40, 0, none⟩) x12_2.length co29) x12_2 from (by (with_reducible repeat (first | apply Kd.R_alloc | apply Kd.R_drewN | apply Kd.R_drew)); exact HO_12.out))
                obtain ⟨ce41, hcl41, hM41, hcc41, hfr41⟩ := Kd.R_elem HX41.out z49 ((ji37) : Int) (of_decide_eq_true (by assumption)) (by have h_ : ((ji37) : Int) < ((x12_2.length : Int) : Int) := of_decide_eq_true (by assumption); first | exact h_ | (have e_ := (Kd.R_reads' HO_12.out).1; omega) | simpa using h_)
                obtain rfl := k49_openM hM41
                have HP41 := Kd.R_seg HX41.out ((ji37) : Int) (of_decide_eq_true (by assumption)) (by have h_ : ((ji37) : Int) < ((x12_2.length : Int) : Int) := of_decide_eq_true (by assumption); first | exact h_ | (have e_ := (Kd.R_reads' HO_12.out).1; omega) | simpa using h_) (seg := [.int .i64 x14_3]) (j := 1) hcl41 hcc41 (show 2 ≤ 2 from by decide) (x' := (⟨(rd_T49 x12_2 (ji37)).f0, x14_3⟩ : S49)) (k49_mkM _ _ _ (⟨(rd_T49 x12_2 (ji37)).f0, x14_3⟩ : S49) ) (fun _ hk => hk)
                have hx41_1 := hcc41 1 _ rfl
                (try simp only [show (k49).sz = 2 from rfl, Nat.mul_one, Nat.add_zero] at hx41_1)
                have hf41_1 := hfr41 1
                (try simp only [show (k49).sz = 2 from rfl, Nat.mul_one, Nat.add_zero] at hf41_1)
                clear hcl41 hcc41 hfr41 hM41
                go_wp2_with (first | ((with_reducible refine gate_store (t := 3) (p := 115) rfl ?_); refine store_event (t := 3) (p := 115) (v := ?vo_w42) (w1 := (wc.setCell ⟨go40, ((ji37) : Int).toNat * 2 + 1, none⟩ (.int .i64 x14_3))) ?hg ?ho ?hn ?hr ?_; (case ho => rfl); (case hg => rfl); (case hn => rfl); (case hr => first | (go_simp; done) | (go_simp; rfl)); intro w42 hw; have hg : wc.grownBy w42 (some go40) := (by rw [hw]; exact HP41.2); have hp_ : Kd.R k49 49 w42 w.heap.size (fun _ => True) (.slice (some ⟨go40, 0, none⟩) x12_2.length co29) y28015 := (by rw [hw, Ny28015.out]; exact HP41.1); clear HP41; have n0_ := Aside0.mk (Kd.R_over' (v := (.slice (some ⟨go40, 0, none⟩) x12_2.length co29)) (by (with_reducible repeat (first | apply Kd.R_alloc | apply Kd.R_drewN | apply Kd.R_drew)); exact HO_8.out) (Kd.R_typed HO_12.out) (by decide) hg); have n1_ := Aside0.mk (hp_); have n2_ := Aside0.mk ((by rw [hw]; exact below_set (HB.out) GB40.out : Below w.heap.size w w42)); clear HO_8; clear HO_12; clear HB; have HO_8 := n0_; have HO_12 := n1_; have HB := n2_; clear n0_ n1_ n2_; clear hg hw hp_))
                go_roundg kj26
                case measure => have := HJ5.out; have := HK2.out; have := HK3.out; have := HJ26.out; omega
                case rel => exact ⟨(y28015), (x14_3), (by first | rfl | (simp; done) | (simp [*]; done)), H', ⟨by have := HJ5.out; have := HK2.out; have := HK3.out; have := HJ26.out; omega⟩, ⟨by (with_reducible repeat (first | apply Kd.R_alloc | apply Kd.R_drewN | apply Kd.R_drew)); exact HO_8.out⟩, ⟨by (with_reducible repeat (first | apply Kd.R_alloc | apply Kd.R_drewN | apply Kd.R_drew)); exact HO_12.out⟩, ⟨by repeat (first | exact HB.out | apply below_alloc | apply pw_below_drewN | apply below_drew1)⟩⟩
               ·rw [if_neg c39] at H
                exact absurd H (by simp)
              ·rw [if_neg c38] at H
               exact absurd H (by simp)
             ·replace c36 := Bool.eq_false_iff.mpr c36
              subst c36
              have H1 : ((papermillref40_splices.f kj26 t28001 x13_2 a1).bind fun t28016 => (if t28016 ≤ a2 then (if x12_2.length < 8796093022208 then (papermillref40_Allowed.l0 kj26 a1 a2 t28001 t28005 (x12_2 ++ [(⟨x13_2, x14_3⟩ : S49)]) x14_3) else (none)) else (papermillref40_Allowed.l0 kj26 a1 a2 t28001 t28005 x12_2 x14_3))) = some (r1, r2) := by rw [if_neg (show ¬ (false = true) by decide)] at H; first | exact H | simpa using H
              clear H
              have H := H1
              clear H1
              replace H := Option.bind_eq_some_iff.mp H
              obtain ⟨t28016, A430, H⟩ := H
              replace H : (if t28016 ≤ a2 then (if x12_2.length < 8796093022208 then (papermillref40_Allowed.l0 kj26 a1 a2 t28001 t28005 (x12_2 ++ [(⟨x13_2, x14_3⟩ : S49)]) x14_3) else (none)) else (papermillref40_Allowed.l0 kj26 a1 a2 t28001 t28005 x12_2 x14_3)) = some (r1, r2) := H
              have A43 := Aside0.mk A430
              clear A430
              by_cases c44 : t28016 ≤ a2
              ·rw [if_pos c44] at H
               have c44b0 : decide (t28016 ≤ a2) = true := decide_eq_true c44
               clear c44
               by_cases c45 : x12_2.length < 8796093022208
               ·rw [if_pos c45] at H
                have LMc45 := Aside0.mk c45
                clear c45
                obtain ⟨y28017, hy28017⟩ : ∃ y_ : List (S49), y_ = (x12_2 ++ [(⟨x13_2, x14_3⟩ : S49)]) := ⟨_, rfl⟩
                replace H : (papermillref40_Allowed.l0 kj26 a1 a2 t28001 t28005 y28017 x14_3) = some (r1, r2) := by first | (rw [hy28017]; with_reducible exact H) | (have H2_ := (Option.bind_some _ _).symm.trans H; rw [hy28017]; with_reducible exact H2_) | (have H2_ := (Option.bind_some _ _).symm.trans H; with_reducible exact H2_) | with_reducible exact H | (rw [hy28017]; exact H) | exact H
                have Ny28017 := Aside0.mk hy28017
                clear hy28017
                have H' := Aside0.mk H
                clear H
                go_wp2_with (first | ((with_reducible refine gate_callee (f := 45) rfl ?_); refine goesL_ (some 119) rfl rfl Try.func45 (by kernel_rfl) rfl #[.slice Ao28 t28001.length co28, .int .i64 x13_2, .int .i64 a1] rfl (by (try simp only [List.map_toArray, List.map_cons, List.map_nil]); first | done | rfl | (simp only [List.length_drop, List.length_take]; rfl)) ?_; (with_reducible refine (papermillref40_splices.calls kj26 _ _ t28001 x13_2 a1 t28016 _ ?side1 ?side2 A43.out).mono ?_); (case side1 => repeat (first | exact (Kd.R_reads' HO_8.out).2.2 | (with_reducible refine Kd.C_alloc ?_ _) | (with_reducible refine Kd.C_drewN ?_ _) | (with_reducible refine Kd.C_drew ?_))); (case side2 => exact (Kd.R_reads' HO_8.out).2.1); rintro e w' ⟨rfl, ⟨nd, rfl⟩⟩; refine ⟨_, rfl, ?_⟩) | ((with_reducible refine gate_builtin (b := .append) (xs := #[.tmp 122, .tmp 126]) rfl ?_); at_builtin; refine Kd.R_append k49 (w0 := w) w.heap.size rfl (.tmp 122) (.tmp 126) 22 49 (.agg #[(.int .i64 0), (.int .i64 0)]) 16 rfl Try.underlying22 info49 rfl (by decide) (by omega) (.slice Ao29 x12_2.length co29) x12_2 (⟨x13_2, x14_3⟩ : S49) [.int .i64 x13_2, .int .i64 x14_3] (fun _ => True) (fun _ => False) rfl rfl ?aP (fun _ hk => hk.elim) ?aF ?aO ?aB ?aS ?aL ?_; (case aP => exact k49_mkM _ _ _ (⟨x13_2, x14_3⟩ : S49)); (case aB => exact (by repeat (first | exact HB.out | apply below_alloc | apply pw_below_drewN | apply below_drew1))); (case aF => exact (fun _ _ => trivial)); (case aO => exact (by (with_reducible repeat (first | apply Kd.R_alloc | apply Kd.R_drewN | apply Kd.R_drew)); exact HO_12.out)); (case aS => exact (below_size (by repeat (first | exact HB.out | apply below_alloc | apply pw_below_drewN | apply below_drew1)))); (case aL => have := LMc45.out; omega); intro v28018 w46 ho hb hg hat; rw [← Ny28017.out] at ho; have n0_ := Aside0.mk (Kd.R_over' (by (with_reducible repeat (first | apply Kd.R_alloc | apply Kd.R_drewN | apply Kd.R_drew)); exact HO_8.out) (Kd.R_typed (by (with_reducible repeat (first | apply Kd.R_alloc | apply Kd.R_drewN | apply Kd.R_drew)); exact HO_12.out)) (by decide) hg); have n1_ := Aside0.mk (hb); have n2_ := Aside0.mk (ho); clear HO_8; clear HB; clear HO_12; have HO_8 := n0_; have HB := n1_; have HO28019 := n2_; clear n0_ n1_ n2_; clear ho hb hg hat))
                go_roundg kj26
                case measure => have := HJ5.out; have := HK2.out; have := HK3.out; have := HJ26.out; omega
                case rel => exact ⟨(y28017), (x14_3), (by first | rfl | (simp; done) | (simp [*]; done)), H', ⟨by have := HJ5.out; have := HK2.out; have := HK3.out; have := HJ26.out; omega⟩, ⟨by (with_reducible repeat (first | apply Kd.R_alloc | apply Kd.R_drewN | apply Kd.R_drew)); exact HO_8.out⟩, ⟨by (with_reducible repeat (first | apply Kd.R_alloc | apply Kd.R_drewN | apply Kd.R_drew)); exact HO28019.out⟩, ⟨by repeat (first | exact HB.out | apply below_alloc | apply pw_below_drewN | apply below_drew1)⟩⟩
               ·rw [if_neg c45] at H
                exact absurd H (by simp)
              ·rw [if_neg c44] at H
               have c44b0 : decide (t28016 ≤ a2) = false := decide_eq_false c44
               clear c44
               have H' := Aside0.mk H
               clear H
               go_wp2_with (first | ((with_reducible refine gate_callee (f := 45) rfl ?_); refine goesL_ (some 119) rfl rfl Try.func45 (by kernel_rfl) rfl #[.slice Ao28 t28001.length co28, .int .i64 x13_2, .int .i64 a1] rfl (by (try simp only [List.map_toArray, List.map_cons, List.map_nil]); first | done | rfl | (simp only [List.length_drop, List.length_take]; rfl)) ?_; (with_reducible refine (papermillref40_splices.calls kj26 _ _ t28001 x13_2 a1 t28016 _ ?side1 ?side2 A43.out).mono ?_); (case side1 => repeat (first | exact (Kd.R_reads' HO_8.out).2.2 | (with_reducible refine Kd.C_alloc ?_ _) | (with_reducible refine Kd.C_drewN ?_ _) | (with_reducible refine Kd.C_drew ?_))); (case side2 => exact (Kd.R_reads' HO_8.out).2.1); rintro e w' ⟨rfl, ⟨nd, rfl⟩⟩; refine ⟨_, rfl, ?_⟩))
               go_roundg kj26
               case measure => have := HJ5.out; have := HK2.out; have := HK3.out; have := HJ26.out; omega
               case rel => exact ⟨(x12_2), (x14_3), (by first | rfl | (simp; done) | (simp [*]; done)), H', ⟨by have := HJ5.out; have := HK2.out; have := HK3.out; have := HJ26.out; omega⟩, ⟨by (with_reducible repeat (first | apply Kd.R_alloc | apply Kd.R_drewN | apply Kd.R_drew)); exact HO_8.out⟩, ⟨by (with_reducible repeat (first | apply Kd.R_alloc | apply Kd.R_drewN | apply Kd.R_drew)); exact HO_12.out⟩, ⟨by repeat (first | exact HB.out | apply below_alloc | apply pw_below_drewN | apply below_drew1)⟩⟩
       ·rw [if_neg c14] at H
        have c14b0 : decide (x13_2 ≤ (wrap64 (t28005 - a1))) = false := decide_eq_false c14
        clear c14
        simp only [Option.some.injEq, Prod.mk.injEq] at H
        obtain ⟨rfl, rfl⟩ := H
        go_wp2
        go_ret2
        exact ⟨_, by first | rfl | (simp [errW_none, errW_some] <;> rfl) | (simp [*, errW_none, errW_some] <;> rfl), by (with_reducible repeat (first | apply Kd.R_alloc | apply Kd.R_drewN | apply Kd.R_drew)); exact HO_12.out, by repeat (first | exact HB.out | apply below_alloc | apply pw_below_drewN | apply below_drew1)⟩
 ·rw [if_neg c5] at H
  have c5b0 : (t28002 == 0) = false := beq_eq_false_iff_ne.mpr c5
  have c5b1 : (t28002 != 0) = true := bne_iff_ne.mpr c5
  simp only [Option.some.injEq, Prod.mk.injEq] at H
  obtain ⟨rfl, rfl⟩ := H
  go_enter Try.func27, Try.ntmps27
  go_wp2_with (first | ((with_reducible refine gate_callee (f := 22) rfl ?_); refine goesL_ (some 19) rfl rfl Try.func22 (by kernel_rfl) rfl #[.slice A0 l0.length c0] rfl (by (try simp only [List.map_toArray, List.map_cons, List.map_nil]); first | done | rfl | (simp only [List.length_drop, List.length_take]; rfl)) ?_; (with_reducible refine (papermillref40_Places.calls k _ _ l0 t28001 t28002 _ ?side1 ?side2 A4.out).mono ?_); (case side1 => repeat (first | exact HR0.out | (with_reducible refine Kd.C_alloc ?_ _) | (with_reducible refine Kd.C_drewN ?_ _) | (with_reducible refine Kd.C_drew ?_))); (case side2 => exact HC0.out); rintro e w47 ⟨v28003, rfl, ho0, hb⟩; refine ⟨_, rfl, ?_⟩; have n0_ := Aside0.mk (Kd.R_lower ho0 (below_size (by repeat (first | exact HB.out | apply below_alloc | apply pw_below_drewN | apply below_drew1)))); have n1_ := Aside0.mk (below_step (by repeat (first | exact HB.out | apply below_alloc | apply pw_below_drewN | apply below_drew1)) hb); clear HB; have HO28004 := n0_; have HB := n1_; clear n0_ n1_; (try clear hb); (try clear hb2); (try clear hk); (try clear hi); (try clear ho0)))
  go_ret2
  exact ⟨_, by first | rfl | (simp [errW_none, errW_some] <;> rfl) | (simp [*, errW_none, errW_some] <;> rfl), by first | exact Kd.R_nil _ _ _ _ _ | exact Kd.N_nil _ _ _ _ _ | exact Kd.V_nil _ _ _ _ _ | exact Kd.Q_nil _ _ _ _ _ | exact Kd.S_nil _ _ _ _ _, by repeat (first | exact HB.out | apply below_alloc | apply pw_below_drewN | apply below_drew1)⟩

end Go.Proofs.Ytjkakgkiikjdmaa.G

namespace Go.Proofs.Ytjkakgkiikjdmaa.G
open Go.RowKit Go.Proofs.YtjkakgkiikjdmaaW.PrintWords Go.Proofs.YtjkakgkiikjdmaaW.PrintLast Go.Proofs.YtjkakgkiikjdmaaW.PrintMore
attribute [local go_sem] max2_int min2_int max_two min_two max_three min_three max_four min_four   -- for this text's walks alone
set_option linter.unusedVariables false
set_option linter.unusedSimpArgs false

def papermilllaw40_SpliceAllows.f (k : Nat) (l0 : List (S56)) (a1 : Int) (a2 : Int) : Option (Bool) := if (l0.length : Int) > 80 then ((papermilllaw40_awake.f).bind fun t7001 => (some t7001)) else ((splice_Allowed.f k l0 a1 a2).bind fun bt7002 => ((papermillref40_Allowed.f k l0 a1 a2).bind fun bt7006 => ((papermillref04_Same.f k bt7002.1 bt7006.1).bind fun t7010 => (if t7010 = true then (if bt7002.2 = bt7006.2 then ((papermilllaw40_awake.f).bind fun t7011 => (some t7011)) else (some false)) else (some false)))))
set_option maxHeartbeats 8000000 in
set_option maxRecDepth 100000 in
theorem papermilllaw40_SpliceAllows.calls (k : Nat) (A0 : Option Addr) (c0 : Nat) (l0 : List (S56)) (a1 : Int) (a2 : Int) (r : Bool) (w : World) (hr0 : Kd.C k56 w A0 l0.length l0) (hc0 : l0.length ≤ c0) (h : papermilllaw40_SpliceAllows.f k l0 a1 a2 = some r) :
  Calls Try.prog 6 #[.slice A0 l0.length c0, .int .i64 a1, .int .i64 a2] w fun e w' => e = .returned (.bool r) ∧ Below w.heap.size w w' := by
 have HR0 := Aside0.mk hr0
 have HC0 := Aside0.mk hc0
 clear hr0 hc0
 have HB := Aside0.mk (Below.refl w.heap.size w)
 have H : (if (l0.length : Int) > 80 then ((papermilllaw40_awake.f).bind fun t7001 => (some t7001)) else ((splice_Allowed.f k l0 a1 a2).bind fun bt7002 => ((papermillref40_Allowed.f k l0 a1 a2).bind fun bt7006 => ((papermillref04_Same.f k bt7002.1 bt7006.1).bind fun t7010 => (if t7010 = true then (if bt7002.2 = bt7006.2 then ((papermilllaw40_awake.f).bind fun t7011 => (some t7011)) else (some false)) else (some false)))))) = some r := h
 clear h
 by_cases c4 : (l0.length : Int) > 80
 ·rw [if_pos c4] at H
  have c4b0 : decide (80 < (l0.length : Int)) = true := decide_eq_true c4
  have c4b1 : decide (80 < l0.length) = true := decide_eq_true (by omega)
  clear c4
  replace H := Option.bind_eq_some_iff.mp H
  obtain ⟨t7001, A50, H⟩ := H
  replace H : (some t7001) = some r := H
  have A5 := Aside0.mk A50
  clear A50
  obtain rfl := Option.some.inj H
  go_enter Try.func6, Try.ntmps6
  go_wp2_with (first | ((with_reducible refine gate_callee (f := 12) rfl ?_); refine goesL_ (some 14) rfl rfl Try.func12 (by kernel_rfl) rfl #[] rfl (by (try simp only [List.map_toArray, List.map_cons, List.map_nil]); first | done | rfl | (simp only [List.length_drop, List.length_take]; rfl)) ?_; (with_reducible refine (papermilllaw40_awake.calls  t7001 _ A5.out).mono ?_); rintro e w6 ⟨rfl, hb⟩; refine ⟨_, rfl, ?_⟩; have n0_ := Aside0.mk (below_step (by repeat (first | exact HB.out | apply below_alloc | apply pw_below_drewN | apply below_drew1)) hb); clear HB; have HB := n0_; clear n0_; (try clear hb); (try clear hb2); (try clear hk); (try clear hi)))
  go_ret
  exact ⟨by first | rfl | (simp [errW_none, errW_some] <;> rfl) | (simp [*, errW_none, errW_some] <;> rfl), by repeat (first | exact HB.out | apply below_alloc | apply pw_below_drewN | apply below_drew1)⟩
 ·rw [if_neg c4] at H
  have c4b0 : decide (80 < (l0.length : Int)) = false := decide_eq_false c4
  have c4b1 : decide (80 < l0.length) = false := decide_eq_false (by omega)
  clear c4
  replace H := Option.bind_eq_some_iff.mp H
  obtain ⟨⟨t7002, t7003⟩, A70, H⟩ := H
  replace H : ((papermillref40_Allowed.f k l0 a1 a2).bind fun bt7006 => ((papermillref04_Same.f k t7002 bt7006.1).bind fun t7010 => (if t7010 = true then (if t7003 = bt7006.2 then ((papermilllaw40_awake.f).bind fun t7011 => (some t7011)) else (some false)) else (some false)))) = some r := H
  have A7 := Aside0.mk A70
  clear A70
  replace H := Option.bind_eq_some_iff.mp H
  obtain ⟨⟨t7006, t7007⟩, A80, H⟩ := H
  replace H : ((papermillref04_Same.f k t7002 t7006).bind fun t7010 => (if t7010 = true then (if t7003 = t7007 then ((papermilllaw40_awake.f).bind fun t7011 => (some t7011)) else (some false)) else (some false))) = some r := H
  have A8 := Aside0.mk A80
  clear A80
  replace H := Option.bind_eq_some_iff.mp H
  obtain ⟨t7010, A90, H⟩ := H
  replace H : (if t7010 = true then (if t7003 = t7007 then ((papermilllaw40_awake.f).bind fun t7011 => (some t7011)) else (some false)) else (some false)) = some r := H
  have A9 := Aside0.mk A90
  clear A90
  by_cases c10 : t7010 = true
  ·subst c10
   have H1 : (if t7003 = t7007 then ((papermilllaw40_awake.f).bind fun t7011 => (some t7011)) else (some false)) = some r := by rw [if_pos rfl] at H; exact H
   clear H
   have H := H1
   clear H1
   by_cases c11 : t7003 = t7007
   ·rw [if_pos c11] at H
    have c11b0 : (t7003 == t7007) = true := beq_iff_eq.mpr c11
    have c11b1 : (t7003 != t7007) = false := bne_eq_false_iff_eq.mpr c11
    clear c11
    replace H := Option.bind_eq_some_iff.mp H
    obtain ⟨t7011, A120, H⟩ := H
    replace H : (some t7011) = some r := H
    have A12 := Aside0.mk A120
    clear A120
    obtain rfl := Option.some.inj H
    go_enter Try.func6, Try.ntmps6
    go_wp2_with (first | ((with_reducible refine gate_callee (f := 26) rfl ?_); refine goesL_ (some 19) rfl rfl Try.func26 (by kernel_rfl) rfl #[.slice A0 l0.length c0, .int .i64 a1, .int .i64 a2] rfl (by (try simp only [List.map_toArray, List.map_cons, List.map_nil]); first | done | rfl | (simp only [List.length_drop, List.length_take]; rfl)) ?_; (with_reducible refine (splice_Allowed.calls k _ _ l0 a1 a2 t7002 t7003 _ ?side1 ?side2 A7.out).mono ?_); (case side1 => repeat (first | exact HR0.out | (with_reducible refine Kd.C_alloc ?_ _) | (with_reducible refine Kd.C_drewN ?_ _) | (with_reducible refine Kd.C_drew ?_))); (case side2 => exact HC0.out); rintro e w13 ⟨v7004, rfl, ho0, hb⟩; refine ⟨_, rfl, ?_⟩; have n0_ := Aside0.mk (Kd.R_lower ho0 (below_size (by repeat (first | exact HB.out | apply below_alloc | apply pw_below_drewN | apply below_drew1)))); have n1_ := Aside0.mk (below_step (by repeat (first | exact HB.out | apply below_alloc | apply pw_below_drewN | apply below_drew1)) hb); clear HB; have HO7005 := n0_; have HB := n1_; clear n0_ n1_; (try clear hb); (try clear hb2); (try clear hk); (try clear hi); (try clear ho0)) | ((with_reducible refine gate_callee (f := 27) rfl ?_); refine goesL_ (some 26) rfl rfl Try.func27 (by kernel_rfl) rfl #[.slice A0 l0.length c0, .int .i64 a1, .int .i64 a2] rfl (by (try simp only [List.map_toArray, List.map_cons, List.map_nil]); first | done | rfl | (simp only [List.length_drop, List.length_take]; rfl)) ?_; (with_reducible refine (papermillref40_Allowed.calls k _ _ l0 a1 a2 t7006 t7007 _ ?side1 ?side2 A8.out).mono ?_); (case side1 => repeat (first | exact (Kd.C_below HR0.out HB.out) | (with_reducible refine Kd.C_alloc ?_ _) | (with_reducible refine Kd.C_drewN ?_ _) | (with_reducible refine Kd.C_drew ?_))); (case side2 => exact HC0.out); rintro e w14 ⟨v7008, rfl, ho0, hb⟩; refine ⟨_, rfl, ?_⟩; have n0_ := Aside0.mk (Kd.R_elder' (by (with_reducible repeat (first | apply Kd.R_alloc | apply Kd.R_drewN | apply Kd.R_drew)); exact HO7005.out) (Kd.R_base ho0) hb); have n1_ := Aside0.mk (Kd.R_lower (Kd.R_new' ho0 (Kd.R_lt (by (with_reducible repeat (first | apply Kd.R_alloc | apply Kd.R_drewN | apply Kd.R_drew)); exact HO7005.out))) (below_size (by repeat (first | exact HB.out | apply below_alloc | apply pw_below_drewN | apply below_drew1)))); have n2_ := Aside0.mk (below_step (by repeat (first | exact HB.out | apply below_alloc | apply pw_below_drewN | apply below_drew1)) hb); clear HO7005; clear HB; have HO7005 := n0_; have HO7009 := n1_; have HB := n2_; clear n0_ n1_ n2_; (try clear hb); (try clear hb2); (try clear hk); (try clear hi); (try clear ho0); obtain ⟨Ao15, co15, eo15⟩ := Kd.R_slice HO7005.out; subst eo15; obtain ⟨Ao16, co16, eo16⟩ := Kd.R_slice HO7009.out; subst eo16) | ((with_reducible refine gate_callee (f := 17) rfl ?_); refine goesL_ (some 31) rfl rfl Try.func17 (by kernel_rfl) rfl #[.slice Ao15 t7002.length co15, .slice Ao16 t7006.length co16] rfl (by (try simp only [List.map_toArray, List.map_cons, List.map_nil]); first | done | rfl | (simp only [List.length_drop, List.length_take]; rfl)) ?_; (with_reducible refine (papermillref04_Same.calls k _ _ t7002 _ _ t7006 true _ ?side1 ?side2 ?side3 ?side4 A9.out).mono ?_); (case side1 => repeat (first | exact (Kd.R_reads' HO7005.out).2.2 | (with_reducible refine Kd.C_alloc ?_ _) | (with_reducible refine Kd.C_drewN ?_ _) | (with_reducible refine Kd.C_drew ?_))); (case side2 => exact (Kd.R_reads' HO7005.out).2.1); (case side3 => repeat (first | exact (Kd.R_reads' HO7009.out).2.2 | (with_reducible refine Kd.C_alloc ?_ _) | (with_reducible refine Kd.C_drewN ?_ _) | (with_reducible refine Kd.C_drew ?_))); (case side4 => exact (Kd.R_reads' HO7009.out).2.1); rintro e w' ⟨rfl, ⟨nd, rfl⟩⟩; refine ⟨_, rfl, ?_⟩) | (go_at_call 12; (with_reducible refine (papermilllaw40_awake.calls  t7011 _ A12.out).mono ?_); rintro e w17 ⟨rfl, hb⟩; have n0_ := Aside0.mk (Kd.R_below (by (with_reducible repeat (first | apply Kd.R_alloc | apply Kd.R_drewN | apply Kd.R_drew)); exact HO7005.out) hb); have n1_ := Aside0.mk (Kd.R_below (by (with_reducible repeat (first | apply Kd.R_alloc | apply Kd.R_drewN | apply Kd.R_drew)); exact HO7009.out) hb); have n2_ := Aside0.mk (below_step (by repeat (first | exact HB.out | apply below_alloc | apply pw_below_drewN | apply below_drew1)) hb); clear HO7005; clear HO7009; clear HB; have HO7005 := n0_; have HO7009 := n1_; have HB := n2_; clear n0_ n1_ n2_; (try clear hb); (try clear hb2); (try clear hk); (try clear hi)))
    go_ret
    exact ⟨by first | rfl | (simp [errW_none, errW_some] <;> rfl) | (simp [*, errW_none, errW_some] <;> rfl), by repeat (first | exact HB.out | apply below_alloc | apply pw_below_drewN | apply below_drew1)⟩
   ·rw [if_neg c11] at H
    have c11b0 : (t7003 == t7007) = false := beq_eq_false_iff_ne.mpr c11
    have c11b1 : (t7003 != t7007) = true := bne_iff_ne.mpr c11
    obtain rfl := Option.some.inj H
    go_enter Try.func6, Try.ntmps6
    go_wp2_with (first | ((with_reducible refine gate_callee (f := 26) rfl ?_); refine goesL_ (some 19) rfl rfl Try.func26 (by kernel_rfl) rfl #[.slice A0 l0.length c0, .int .i64 a1, .int .i64 a2] rfl (by (try simp only [List.map_toArray, List.map_cons, List.map_nil]); first | done | rfl | (simp only [List.length_drop, List.length_take]; rfl)) ?_; (with_reducible refine (splice_Allowed.calls k _ _ l0 a1 a2 t7002 t7003 _ ?side1 ?side2 A7.out).mono ?_); (case side1 => repeat (first | exact HR0.out | (with_reducible refine Kd.C_alloc ?_ _) | (with_reducible refine Kd.C_drewN ?_ _) | (with_reducible refine Kd.C_drew ?_))); (case side2 => exact HC0.out); rintro e w18 ⟨v7004, rfl, ho0, hb⟩; refine ⟨_, rfl, ?_⟩; have n0_ := Aside0.mk (Kd.R_lower ho0 (below_size (by repeat (first | exact HB.out | apply below_alloc | apply pw_below_drewN | apply below_drew1)))); have n1_ := Aside0.mk (below_step (by repeat (first | exact HB.out | apply below_alloc | apply pw_below_drewN | apply below_drew1)) hb); clear HB; have HO7005 := n0_; have HB := n1_; clear n0_ n1_; (try clear hb); (try clear hb2); (try clear hk); (try clear hi); (try clear ho0)) | ((with_reducible refine gate_callee (f := 27) rfl ?_); refine goesL_ (some 26) rfl rfl Try.func27 (by kernel_rfl) rfl #[.slice A0 l0.length c0, .int .i64 a1, .int .i64 a2] rfl (by (try simp only [List.map_toArray, List.map_cons, List.map_nil]); first | done | rfl | (simp only [List.length_drop, List.length_take]; rfl)) ?_; (with_reducible refine (papermillref40_Allowed.calls k _ _ l0 a1 a2 t7006 t7007 _ ?side1 ?side2 A8.out).mono ?_); (case side1 => repeat (first | exact (Kd.C_below HR0.out HB.out) | (with_reducible refine Kd.C_alloc ?_ _) | (with_reducible refine Kd.C_drewN ?_ _) | (with_reducible refine Kd.C_drew ?_))); (case side2 => exact HC0.out); rintro e w19 ⟨v7008, rfl, ho0, hb⟩; refine ⟨_, rfl, ?_⟩; have n0_ := Aside0.mk (Kd.R_elder' (by (with_reducible repeat (first | apply Kd.R_alloc | apply Kd.R_drewN | apply Kd.R_drew)); exact HO7005.out) (Kd.R_base ho0) hb); have n1_ := Aside0.mk (Kd.R_lower (Kd.R_new' ho0 (Kd.R_lt (by (with_reducible repeat (first | apply Kd.R_alloc | apply Kd.R_drewN | apply Kd.R_drew)); exact HO7005.out))) (below_size (by repeat (first | exact HB.out | apply below_alloc | apply pw_below_drewN | apply below_drew1)))); have n2_ := Aside0.mk (below_step (by repeat (first | exact HB.out | apply below_alloc | apply pw_below_drewN | apply below_drew1)) hb); clear HO7005; clear HB; have HO7005 := n0_; have HO7009 := n1_; have HB := n2_; clear n0_ n1_ n2_; (try clear hb); (try clear hb2); (try clear hk); (try clear hi); (try clear ho0); obtain ⟨Ao20, co20, eo20⟩ := Kd.R_slice HO7005.out; subst eo20; obtain ⟨Ao21, co21, eo21⟩ := Kd.R_slice HO7009.out; subst eo21) | ((with_reducible refine gate_callee (f := 17) rfl ?_); refine goesL_ (some 31) rfl rfl Try.func17 (by kernel_rfl) rfl #[.slice Ao20 t7002.length co20, .slice Ao21 t7006.length co21] rfl (by (try simp only [List.map_toArray, List.map_cons, List.map_nil]); first | done | rfl | (simp only [List.length_drop, List.length_take]; rfl)) ?_; (with_reducible refine (papermillref04_Same.calls k _ _ t7002 _ _ t7006 true _ ?side1 ?side2 ?side3 ?side4 A9.out).mono ?_); (case side1 => repeat (first | exact (Kd.R_reads' HO7005.out).2.2 | (with_reducible refine Kd.C_alloc ?_ _) | (with_reducible refine Kd.C_drewN ?_ _) | (with_reducible refine Kd.C_drew ?_))); (case side2 => exact (Kd.R_reads' HO7005.out).2.1); (case side3 => repeat (first | exact (Kd.R_reads' HO7009.out).2.2 | (with_reducible refine Kd.C_alloc ?_ _) | (with_reducible refine Kd.C_drewN ?_ _) | (with_reducible refine Kd.C_drew ?_))); (case side4 => exact (Kd.R_reads' HO7009.out).2.1); rintro e w' ⟨rfl, ⟨nd, rfl⟩⟩; refine ⟨_, rfl, ?_⟩))
    go_ret
    exact ⟨by first | rfl | (simp [errW_none, errW_some] <;> rfl) | (simp [*, errW_none, errW_some] <;> rfl), by repeat (first | exact HB.out | apply below_alloc | apply pw_below_drewN | apply below_drew1)⟩
  ·replace c10 := Bool.eq_false_iff.mpr c10
   subst c10
   have H1 : (some false) = some r := by rw [if_neg (show ¬ (false = true) by decide)] at H; first | exact H | simpa using H
   clear H
   have H := H1
   clear H1
   obtain rfl := Option.some.inj H
   go_enter Try.func6, Try.ntmps6
   go_wp2_with (first | ((with_reducible refine gate_callee (f := 26) rfl ?_); refine goesL_ (some 19) rfl rfl Try.func26 (by kernel_rfl) rfl #[.slice A0 l0.length c0, .int .i64 a1, .int .i64 a2] rfl (by (try simp only [List.map_toArray, List.map_cons, List.map_nil]); first | done | rfl | (simp only [List.length_drop, List.length_take]; rfl)) ?_; (with_reducible refine (splice_Allowed.calls k _ _ l0 a1 a2 t7002 t7003 _ ?side1 ?side2 A7.out).mono ?_); (case side1 => repeat (first | exact HR0.out | (with_reducible refine Kd.C_alloc ?_ _) | (with_reducible refine Kd.C_drewN ?_ _) | (with_reducible refine Kd.C_drew ?_))); (case side2 => exact HC0.out); rintro e w22 ⟨v7004, rfl, ho0, hb⟩; refine ⟨_, rfl, ?_⟩; have n0_ := Aside0.mk (Kd.R_lower ho0 (below_size (by repeat (first | exact HB.out | apply below_alloc | apply pw_below_drewN | apply below_drew1)))); have n1_ := Aside0.mk (below_step (by repeat (first | exact HB.out | apply below_alloc | apply pw_below_drewN | apply below_drew1)) hb); clear HB; have HO7005 := n0_; have HB := n1_; clear n0_ n1_; (try clear hb); (try clear hb2); (try clear hk); (try clear hi); (try clear ho0)) | ((with_reducible refine gate_callee (f := 27) rfl ?_); refine goesL_ (some 26) rfl rfl Try.func27 (by kernel_rfl) rfl #[.slice A0 l0.length c0, .int .i64 a1, .int .i64 a2] rfl (by (try simp only [List.map_toArray, List.map_cons, List.map_nil]); first | done | rfl | (simp only [List.length_drop, List.length_take]; rfl)) ?_; (with_reducible refine (papermillref40_Allowed.calls k _ _ l0 a1 a2 t7006 t7007 _ ?side1 ?side2 A8.out).mono ?_); (case side1 => repeat (first | exact (Kd.C_below HR0.out HB.out) | (with_reducible refine Kd.C_alloc ?_ _) | (with_reducible refine Kd.C_drewN ?_ _) | (with_reducible refine Kd.C_drew ?_))); (case side2 => exact HC0.out); rintro e w23 ⟨v7008, rfl, ho0, hb⟩; refine ⟨_, rfl, ?_⟩; have n0_ := Aside0.mk (Kd.R_elder' (by (with_reducible repeat (first | apply Kd.R_alloc | apply Kd.R_drewN | apply Kd.R_drew)); exact HO7005.out) (Kd.R_base ho0) hb); have n1_ := Aside0.mk (Kd.R_lower (Kd.R_new' ho0 (Kd.R_lt (by (with_reducible repeat (first | apply Kd.R_alloc | apply Kd.R_drewN | apply Kd.R_drew)); exact HO7005.out))) (below_size (by repeat (first | exact HB.out | apply below_alloc | apply pw_below_drewN | apply below_drew1)))); have n2_ := Aside0.mk (below_step (by repeat (first | exact HB.out | apply below_alloc | apply pw_below_drewN | apply below_drew1)) hb); clear HO7005; clear HB; have HO7005 := n0_; have HO7009 := n1_; have HB := n2_; clear n0_ n1_ n2_; (try clear hb); (try clear hb2); (try clear hk); (try clear hi); (try clear ho0); obtain ⟨Ao24, co24, eo24⟩ := Kd.R_slice HO7005.out; subst eo24; obtain ⟨Ao25, co25, eo25⟩ := Kd.R_slice HO7009.out; subst eo25) | ((with_reducible refine gate_callee (f := 17) rfl ?_); refine goesL_ (some 31) rfl rfl Try.func17 (by kernel_rfl) rfl #[.slice Ao24 t7002.length co24, .slice Ao25 t7006.length co25] rfl (by (try simp only [List.map_toArray, List.map_cons, List.map_nil]); first | done | rfl | (simp only [List.length_drop, List.length_take]; rfl)) ?_; (with_reducible refine (papermillref04_Same.calls k _ _ t7002 _ _ t7006 false _ ?side1 ?side2 ?side3 ?side4 A9.out).mono ?_); (case side1 => repeat (first | exact (Kd.R_reads' HO7005.out).2.2 | (with_reducible refine Kd.C_alloc ?_ _) | (with_reducible refine Kd.C_drewN ?_ _) | (with_reducible refine Kd.C_drew ?_))); (case side2 => exact (Kd.R_reads' HO7005.out).2.1); (case side3 => repeat (first | exact (Kd.R_reads' HO7009.out).2.2 | (with_reducible refine Kd.C_alloc ?_ _) | (with_reducible refine Kd.C_drewN ?_ _) | (with_reducible refine Kd.C_drew ?_))); (case side4 => exact (Kd.R_reads' HO7009.out).2.1); rintro e w' ⟨rfl, ⟨nd, rfl⟩⟩; refine ⟨_, rfl, ?_⟩))
   go_ret
   exact ⟨by first | rfl | (simp [errW_none, errW_some] <;> rfl) | (simp [*, errW_none, errW_some] <;> rfl), by repeat (first | exact HB.out | apply below_alloc | apply pw_below_drewN | apply below_drew1)⟩

end Go.Proofs.Ytjkakgkiikjdmaa.G
