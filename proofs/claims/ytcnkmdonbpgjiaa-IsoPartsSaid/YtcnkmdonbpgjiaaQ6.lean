import Derived.Test.YtcnkmdonbpgjiaaQ1
namespace Go.Proofs.Ytcnkmdonbpgjiaa.G
open Go.RowKit Go.Proofs.YtcnkmdonbpgjiaaW.PrintWords Go.Proofs.YtcnkmdonbpgjiaaW.PrintLast Go.Proofs.YtcnkmdonbpgjiaaW.PrintMore
attribute [local go_sem] max2_int min2_int max_two min_two max_three min_three max_four min_four   -- for this text's walks alone
set_option linter.unusedVariables false
set_option linter.unusedSimpArgs false

def papermillref13_length.l0 : Nat → List (S32) → Int → Int → Option (Int)
  | 0, _, _, _ => none
  | k + 1, x0, x3, x4 => if x4 < (x0.length : Int) then (if 0 ≤ x4 then (papermillref13_length.l0 k x0 (wrap64 (x3 + ((rd_T32 x0 x4).f1))) (wrap64 (x4 + 1))) else (none)) else (some x3)
def papermillref13_length.f (k : Nat) (l0 : List (S32)) : Option (Int) := papermillref13_length.l0 k l0 0 0
theorem papermillref13_length.mono_l : ∀ k, (∀ y0 y1 y2, LeO (papermillref13_length.l0 k y0 y1 y2) (papermillref13_length.l0 (k + 1) y0 y1 y2))
  | 0 => fun _ _ _ r h => by simp [papermillref13_length.l0] at h
  | k + 1 => by
    have ih0 := papermillref13_length.mono_l k
    · intro y0 y1 y2
      unfold papermillref13_length.l0
      repeat' first
      | (with_reducible exact ih0 _ _ _)
      | (with_reducible exact LeO.refl _)
      | (with_reducible exact LeO.none _)
      | (with_reducible refine LeO.ite ?_ ?_)
      | (with_reducible refine LeO.bind ?_ (fun _ => ?_))
      | exact ih0 _ _ _
      | exact LeO.none _
      | refine LeO.ite ?_ ?_
      | refine LeO.bind ?_ (fun _ => ?_)
theorem papermillref13_length.mono : ∀ a0 k, LeO (papermillref13_length.f k a0) (papermillref13_length.f (k + 1) a0) := by
  intro a0 k
  have ih0 := papermillref13_length.mono_l k
  unfold papermillref13_length.f
  repeat' first
      | (with_reducible exact ih0 _ _ _)
      | (with_reducible exact LeO.refl _)
      | (with_reducible exact LeO.none _)
      | (with_reducible refine LeO.ite ?_ ?_)
      | (with_reducible refine LeO.bind ?_ (fun _ => ?_))
      | exact ih0 _ _ _
      | exact LeO.none _
      | refine LeO.ite ?_ ?_
      | refine LeO.bind ?_ (fun _ => ?_)
set_option maxHeartbeats 8000000 in
set_option maxRecDepth 100000 in
theorem papermillref13_length.calls (k : Nat) (A0 : Option Addr) (c0 : Nat) (l0 : List (S32)) (r : Int) (w : World) (hr0 : Kd.C k32 w A0 l0.length l0) (hc0 : l0.length ≤ c0) (h : papermillref13_length.f k l0 = some r) :
    Calls Try.prog 42 #[.slice A0 l0.length c0] w fun e w' => e = .returned (.int .i64 r) ∧ Drawn0 w w' := by
  have HR0 := Aside0.mk hr0
  have HC0 := Aside0.mk hc0
  clear hr0 hc0
  have H : (papermillref13_length.l0 k l0 0 0) = some r := h
  clear h
  have H' := Aside0.mk H
  clear H
  go_enter Try.func42, Try.ntmps42
  go_wp2
  go_loopg [3, 4] k (fun kq v3 v4 w' => ∃ (x3_1 : Int) (x4_1 : Int), v3 = .int .i64 x3_1 ∧ v4 = .int .i64 x4_1 ∧ Aside0 (papermillref13_length.l0 kq l0 x3_1 x4_1 = some r) ∧ Aside0 (kq ≤ k) ∧ Drawn0 w w')
  case atStart => exact ⟨(0), (0), (by first | rfl | (simp; done) | (simp [*]; done)), (by first | rfl | (simp; done) | (simp [*]; done)), H', ⟨Nat.le_refl _⟩, by repeat (first | exact Drawn0.refl _ | apply Drawn0.step)⟩
  case round =>
    clear H'
    obtain ⟨x3_1, x4_1, rfl, rfl, HA, HK1, ⟨m1, rfl⟩⟩ := hrel
    cases gk with
    | zero => exact absurd HA.out (by simp [papermillref13_length.l0])
    | succ k1 =>
      have H := HA.out
      clear HA
      simp only [papermillref13_length.l0] at H
      by_cases c2 : x4_1 < (l0.length : Int)
      · rw [if_pos c2] at H
        have c2b0 : decide (x4_1 < (l0.length : Int)) = true := decide_eq_true c2
        clear c2
        by_cases c3 : 0 ≤ x4_1
        · rw [if_pos c3] at H
          have c3b0 : decide (0 ≤ x4_1) = true := decide_eq_true c3
          clear c3
          have H' := Aside0.mk H
          clear H
          have p43001 : 0 ≤ (x4_1 : Int) := of_decide_eq_true (by assumption)
          have q43001 : x4_1 < (l0.length : Int) := of_decide_eq_true (by assumption)
          obtain ⟨ad43001, e43001, hx43001_0, hx43001_1, hx43001_2⟩ := at_T32 HR0.out x4_1 p43001 q43001
          cases e43001
          replace p43001 := eq_true p43001
          replace q43001 := eq_true q43001
          go_wp2
          go_roundg k1
          case measure => have := HK1.out; omega
          case rel => exact ⟨(wrap64 (x3_1 + ((rd_T32 l0 x4_1).f1))), (wrap64 (x4_1 + 1)), (by first | rfl | (simp; done) | (simp [*]; done)), (by first | rfl | (simp; done) | (simp [*]; done)), H', ⟨by have := HK1.out; omega⟩, by repeat (first | exact Drawn0.refl _ | apply Drawn0.step)⟩
        · rw [if_neg c3] at H
          exact absurd H (by simp)
      · rw [if_neg c2] at H
        have c2b0 : decide (x4_1 < (l0.length : Int)) = false := decide_eq_false c2
        clear c2
        obtain rfl := Option.some.inj H
        go_wp2
        go_ret
        exact ⟨by first | rfl | (simp; done) | (simp [*]; done), by repeat (first | exact Drawn0.refl _ | apply Drawn0.step)⟩

end Go.Proofs.Ytcnkmdonbpgjiaa.G

namespace Go.Proofs.Ytcnkmdonbpgjiaa.G
open Go.RowKit Go.Proofs.YtcnkmdonbpgjiaaW.PrintWords Go.Proofs.YtcnkmdonbpgjiaaW.PrintLast Go.Proofs.YtcnkmdonbpgjiaaW.PrintMore
attribute [local go_sem] max2_int min2_int max_two min_two max_three min_three max_four min_four   -- for this text's walks alone
set_option linter.unusedVariables false
set_option linter.unusedSimpArgs false

def papermillref13_good.j0 : Nat → Bool → Int → Int → Bool → Option (Bool)
 | 0, _, _, _, _ => none
 | k + 1, x20, x42002000, x42002001, x42002002 => if x20 = true then (some false) else (if x42002002 = true then (some (decide ((wrap64 ((wrap64 (x42002000 - x42002001)) + 1)) ≥ 0))) else (some (decide ((wrap64 (x42002000 + x42002001)) ≤ 17179869184))))
def papermillref13_good.f (k : Nat) (a0_0 : Int) (a0_1 : Int) (a0_2 : Bool) : Option (Bool) := if a0_1 < 1 then (papermillref13_good.j0 k true a0_0 a0_1 a0_2) else (if a0_1 > 17179869184 then (papermillref13_good.j0 k true a0_0 a0_1 a0_2) else (if a0_0 < 0 then (papermillref13_good.j0 k true a0_0 a0_1 a0_2) else (papermillref13_good.j0 k (decide (a0_0 ≥ 17179869184)) a0_0 a0_1 a0_2)))
theorem papermillref13_good.mono_l : ∀ k, (∀ y0 y1 y2 y3, LeO (papermillref13_good.j0 k y0 y1 y2 y3) (papermillref13_good.j0 (k + 1) y0 y1 y2 y3))
 | 0 => fun _ _ _ _ r h => by simp [papermillref13_good.j0] at h
 | k + 1 => by
  have ih0 := papermillref13_good.mono_l k
  ·intro y0 y1 y2 y3
   unfold papermillref13_good.j0
   repeat' first
   | (with_reducible exact ih0 _ _ _ _)
   | (with_reducible exact LeO.refl _)
   | (with_reducible exact LeO.none _)
   | (with_reducible refine LeO.ite ?_ ?_)
   | (with_reducible refine LeO.bind ?_ (fun _ => ?_))
   | exact ih0 _ _ _ _
   | exact LeO.none _
   | refine LeO.ite ?_ ?_
   | refine LeO.bind ?_ (fun _ => ?_)
theorem papermillref13_good.mono : ∀ a0 a1 a2 k, LeO (papermillref13_good.f k a0 a1 a2) (papermillref13_good.f (k + 1) a0 a1 a2) := by
 intro a0 a1 a2 k
 have ih0 := papermillref13_good.mono_l k
 unfold papermillref13_good.f
 repeat' first
   | (with_reducible exact ih0 _ _ _ _)
   | (with_reducible exact LeO.refl _)
   | (with_reducible exact LeO.none _)
   | (with_reducible refine LeO.ite ?_ ?_)
   | (with_reducible refine LeO.bind ?_ (fun _ => ?_))
   | exact ih0 _ _ _ _
   | exact LeO.none _
   | refine LeO.ite ?_ ?_
   | refine LeO.bind ?_ (fun _ => ?_)
set_option maxHeartbeats 8000000 in
set_option maxRecDepth 100000 in
theorem papermillref13_good.calls (k : Nat) (a0_0 : Int) (a0_1 : Int) (a0_2 : Bool) (r : Bool) (w : World) (h : papermillref13_good.f k a0_0 a0_1 a0_2 = some r) :
  Calls Try.prog 41 #[.agg #[.int .i64 a0_0, .int .i64 a0_1, .bool a0_2]] w fun e w' => e = .returned (.bool r) ∧ Below w.heap.size w w' := by
 have hu32 := Try.underlying32
 have HB := Aside0.mk (Below.refl w.heap.size w)
 have H : (if a0_1 < 1 then (papermillref13_good.j0 k true a0_0 a0_1 a0_2) else (if a0_1 > 17179869184 then (papermillref13_good.j0 k true a0_0 a0_1 a0_2) else (if a0_0 < 0 then (papermillref13_good.j0 k true a0_0 a0_1 a0_2) else (papermillref13_good.j0 k (decide (a0_0 ≥ 17179869184)) a0_0 a0_1 a0_2)))) = some r := h
 clear h
 have HC2 := Aside0.mk H
 clear H
 go_enter Try.func41, Try.ntmps41
 go_upto_region 1 with (first | ((with_reducible refine gate_dst (N := 1) rfl ?_); refine box_event ?hg (N := 1) ?hd (cs := #[.int .i64 a0_0, .int .i64 a0_1, .bool a0_2]) (t := 32) ?hr ?_; (case hd => rfl); (case hg => rfl); (case hr => first | (go_simp; done) | (go_simp; rfl)); intro gb42001 hg w3 hbox hb; have n0_ := Aside0.mk (below_step (by repeat (first | exact HB.out | apply below_alloc | apply pw_below_drewN | apply below_drew1)) hb); have n1_ := Aside0.mk (hbox); have n2_ := Aside0.mk ((by rw [hg]; exact (below_size (by repeat (first | exact HB.out | apply below_alloc | apply pw_below_drewN | apply below_drew1))) : w.heap.size ≤ gb42001)); have n3_ := Aside0.mk ((by rw [hg]; exact (below_size (by repeat (first | exact HB.out | apply below_alloc | apply pw_below_drewN | apply below_drew1))) : w.heap.size ≤ gb42001)); clear HB; have HB := n0_; have BK42001 := n1_; have GW42001 := n2_; have GE42001 := n3_; clear n0_ n1_ n2_ n3_; clear hb hbox hg))
 (try simp only [Act.put, List.setIfInBounds_toArray, List.set_cons_zero, List.set_cons_succ])
 go_cut [20] (fun v20 wc => ∃ (kq : Nat) (x20_1 : Bool), v20 = .bool x20_1 ∧ Aside0 (papermillref13_good.j0 kq x20_1 a0_0 a0_1 a0_2 = some r) ∧ Aside0 (kq ≤ k) ∧ Aside0 (wc.heap[gb42001]? = some (.cells #[.int .i64 a0_0, .int .i64 a0_1, .bool a0_2] 32 (0, 0))) ∧ Aside0 (Below w.heap.size w wc))
 case first =>
  have H := HC2.out
  clear HC2
  by_cases c4 : a0_1 < 1
  ·rw [if_pos c4] at H
   have c4b0 : decide (a0_1 < 1) = true := decide_eq_true c4
   clear c4
   (first | rw [c4b0] | (simp only [i64_w, i32_w]; rw [c4b0]) | skip)
   have H' := Aside0.mk H
   clear H
   have hcz5_0 : w3.cell? ⟨gb42001, 0, none⟩ = some (.int .i64 a0_0) := (blk_cell BK42001.out 0).trans rfl
   have hcz5_1 : w3.cell? ⟨gb42001, 1, none⟩ = some (.int .i64 a0_1) := (blk_cell BK42001.out 1).trans rfl
   have hcz5_2 : w3.cell? ⟨gb42001, 2, none⟩ = some (.bool a0_2) := (blk_cell BK42001.out 2).trans rfl
   have hfz5_0 := blk_frozen BK42001.out 0
   have hfz5_1 := blk_frozen BK42001.out 1
   have hfz5_2 := blk_frozen BK42001.out 2
   go_wp2
   go_meet
   case rel => exact ⟨_, (true), (by first | rfl | (simp; done) | (simp [*]; done)), H', ⟨by first | omega | exact Nat.le_refl _⟩, ⟨BK42001.out⟩, ⟨by repeat (first | exact HB.out | apply below_alloc | apply pw_below_drewN | apply below_drew1 | refine below_set ?_ GE42001.out)⟩⟩
  ·rw [if_neg c4] at H
   have c4b0 : decide (a0_1 < 1) = false := decide_eq_false c4
   clear c4
   (first | rw [c4b0] | (simp only [i64_w, i32_w]; rw [c4b0]) | skip)
   by_cases c6 : a0_1 > 17179869184
   ·rw [if_pos c6] at H
    have c6b0 : decide (17179869184 < a0_1) = true := decide_eq_true c6
    clear c6
    have H' := Aside0.mk H
    clear H
    have hcz7_0 : w3.cell? ⟨gb42001, 0, none⟩ = some (.int .i64 a0_0) := (blk_cell BK42001.out 0).trans rfl
    have hcz7_1 : w3.cell? ⟨gb42001, 1, none⟩ = some (.int .i64 a0_1) := (blk_cell BK42001.out 1).trans rfl
    have hcz7_2 : w3.cell? ⟨gb42001, 2, none⟩ = some (.bool a0_2) := (blk_cell BK42001.out 2).trans rfl
    have hfz7_0 := blk_frozen BK42001.out 0
    have hfz7_1 := blk_frozen BK42001.out 1
    have hfz7_2 := blk_frozen BK42001.out 2
    go_wp2
    go_meet
    case rel => exact ⟨_, (true), (by first | rfl | (simp; done) | (simp [*]; done)), H', ⟨by first | omega | exact Nat.le_refl _⟩, ⟨BK42001.out⟩, ⟨by repeat (first | exact HB.out | apply below_alloc | apply pw_below_drewN | apply below_drew1 | refine below_set ?_ GE42001.out)⟩⟩
   ·rw [if_neg c6] at H
    have c6b0 : decide (17179869184 < a0_1) = false := decide_eq_false c6
    clear c6
    by_cases c8 : a0_0 < 0
    ·rw [if_pos c8] at H
     have c8b0 : decide (a0_0 < 0) = true := decide_eq_true c8
     clear c8
     have H' := Aside0.mk H
     clear H
     have hcz9_0 : w3.cell? ⟨gb42001, 0, none⟩ = some (.int .i64 a0_0) := (blk_cell BK42001.out 0).trans rfl
     have hcz9_1 : w3.cell? ⟨gb42001, 1, none⟩ = some (.int .i64 a0_1) := (blk_cell BK42001.out 1).trans rfl
     have hcz9_2 : w3.cell? ⟨gb42001, 2, none⟩ = some (.bool a0_2) := (blk_cell BK42001.out 2).trans rfl
     have hfz9_0 := blk_frozen BK42001.out 0
     have hfz9_1 := blk_frozen BK42001.out 1
     have hfz9_2 := blk_frozen BK42001.out 2
     go_wp2
     go_meet
     case rel => exact ⟨_, (true), (by first | rfl | (simp; done) | (simp [*]; done)), H', ⟨by first | omega | exact Nat.le_refl _⟩, ⟨BK42001.out⟩, ⟨by repeat (first | exact HB.out | apply below_alloc | apply pw_below_drewN | apply below_drew1 | refine below_set ?_ GE42001.out)⟩⟩
    ·rw [if_neg c8] at H
     have c8b0 : decide (a0_0 < 0) = false := decide_eq_false c8
     clear c8
     have H' := Aside0.mk H
     clear H
     have hcz10_0 : w3.cell? ⟨gb42001, 0, none⟩ = some (.int .i64 a0_0) := (blk_cell BK42001.out 0).trans rfl
     have hcz10_1 : w3.cell? ⟨gb42001, 1, none⟩ = some (.int .i64 a0_1) := (blk_cell BK42001.out 1).trans rfl
     have hcz10_2 : w3.cell? ⟨gb42001, 2, none⟩ = some (.bool a0_2) := (blk_cell BK42001.out 2).trans rfl
     have hfz10_0 := blk_frozen BK42001.out 0
     have hfz10_1 := blk_frozen BK42001.out 1
     have hfz10_2 := blk_frozen BK42001.out 2
     go_wp2
     go_meet
     case rel => exact ⟨_, (decide (a0_0 ≥ 17179869184)), (by first | rfl | (simp; done) | (simp [*]; done)), H', ⟨by first | omega | exact Nat.le_refl _⟩, ⟨BK42001.out⟩, ⟨by repeat (first | exact HB.out | apply below_alloc | apply pw_below_drewN | apply below_drew1 | refine below_set ?_ GE42001.out)⟩⟩
 case rest =>
  clear HC2
  try clear p2
  try clear c4
  try clear c4b0
  try clear c6
  try clear c6b0
  try clear c8
  try clear c8b0
  try clear hcz10_0
  try clear hcz10_1
  try clear hcz10_2
  try clear hcz5_0
  try clear hcz5_1
  try clear hcz5_2
  try clear hcz7_0
  try clear hcz7_1
  try clear hcz7_2
  try clear hcz9_0
  try clear hcz9_1
  try clear hcz9_2
  try clear hfz10_0
  try clear hfz10_1
  try clear hfz10_2
  try clear hfz5_0
  try clear hfz5_1
  try clear hfz5_2
  try clear hfz7_0
  try clear hfz7_1
  try clear hfz7_2
  try clear hfz9_0
  try clear hfz9_1
  try clear hfz9_2
  obtain ⟨kq, x20_1, rfl, HA, HJ1, BK42001, HB⟩ := hcut
  cases kq with
  | zero => exact absurd HA.out (by simp [papermillref13_good.j0])
  | succ kj1 =>
   have H := HA.out
   clear HA
   simp only [papermillref13_good.j0] at H
   by_cases c11 : x20_1 = true
   ·subst c11
    have H1 : (some false) = some r := by rw [if_pos rfl] at H; exact H
    clear H
    have H := H1
    clear H1
    obtain rfl := Option.some.inj H
    go_wp2
    go_ret
    exact ⟨by first | rfl | (simp [errW_none, errW_some] <;> rfl) | (simp [*, errW_none, errW_some] <;> rfl), by repeat (first | exact HB.out | apply below_alloc | apply pw_below_drewN | apply below_drew1 | refine below_set ?_ GE42001.out)⟩
   ·replace c11 := Bool.eq_false_iff.mpr c11
    subst c11
    have H1 : (if a0_2 = true then (some (decide ((wrap64 ((wrap64 (a0_0 - a0_1)) + 1)) ≥ 0))) else (some (decide ((wrap64 (a0_0 + a0_1)) ≤ 17179869184)))) = some r := by rw [if_neg (show ¬ (false = true) by decide)] at H; first | exact H | simpa using H
    clear H
    have H := H1
    clear H1
    by_cases c12 : a0_2 = true
    ·subst c12
     have H1 : (some (decide ((wrap64 ((wrap64 (a0_0 - a0_1)) + 1)) ≥ 0))) = some r := by rw [if_pos rfl] at H; exact H
     clear H
     have H := H1
     clear H1
     obtain rfl := Option.some.inj H
     have hcz13_0 : wc.cell? ⟨gb42001, 0, none⟩ = some (.int .i64 a0_0) := (blk_cell BK42001.out 0).trans rfl
     have hcz13_1 : wc.cell? ⟨gb42001, 1, none⟩ = some (.int .i64 a0_1) := (blk_cell BK42001.out 1).trans rfl
     have hcz13_2 : wc.cell? ⟨gb42001, 2, none⟩ = some (.bool true) := (blk_cell BK42001.out 2).trans rfl
     have hfz13_0 := blk_frozen BK42001.out 0
     have hfz13_1 := blk_frozen BK42001.out 1
     have hfz13_2 := blk_frozen BK42001.out 2
     go_wp2
     go_ret
     exact ⟨by first | rfl | (simp [errW_none, errW_some] <;> rfl) | (simp [*, errW_none, errW_some] <;> rfl), by repeat (first | exact HB.out | apply below_alloc | apply pw_below_drewN | apply below_drew1 | refine below_set ?_ GE42001.out)⟩
    ·replace c12 := Bool.eq_false_iff.mpr c12
     subst c12
     have H1 : (some (decide ((wrap64 (a0_0 + a0_1)) ≤ 17179869184))) = some r := by rw [if_neg (show ¬ (false = true) by decide)] at H; first | exact H | simpa using H
     clear H
     have H := H1
     clear H1
     obtain rfl := Option.some.inj H
     have hcz14_0 : wc.cell? ⟨gb42001, 0, none⟩ = some (.int .i64 a0_0) := (blk_cell BK42001.out 0).trans rfl
     have hcz14_1 : wc.cell? ⟨gb42001, 1, none⟩ = some (.int .i64 a0_1) := (blk_cell BK42001.out 1).trans rfl
     have hcz14_2 : wc.cell? ⟨gb42001, 2, none⟩ = some (.bool false) := (blk_cell BK42001.out 2).trans rfl
     have hfz14_0 := blk_frozen BK42001.out 0
     have hfz14_1 := blk_frozen BK42001.out 1
     have hfz14_2 := blk_frozen BK42001.out 2
     go_wp2
     go_ret
     exact ⟨by first | rfl | (simp [errW_none, errW_some] <;> rfl) | (simp [*, errW_none, errW_some] <;> rfl), by repeat (first | exact HB.out | apply below_alloc | apply pw_below_drewN | apply below_drew1 | refine below_set ?_ GE42001.out)⟩

end Go.Proofs.Ytcnkmdonbpgjiaa.G

namespace Go.Proofs.Ytcnkmdonbpgjiaa.G
open Go.RowKit Go.Proofs.YtcnkmdonbpgjiaaW.PrintWords Go.Proofs.YtcnkmdonbpgjiaaW.PrintLast Go.Proofs.YtcnkmdonbpgjiaaW.PrintMore
attribute [local go_sem] max2_int min2_int max_two min_two max_three min_three max_four min_four   -- for this text's walks alone
set_option linter.unusedVariables false
set_option linter.unusedSimpArgs false

def papermillref13_Check.l0 : Nat → List (S32) → Int → Option (Int)
 | 0, _, _ => none
 | k + 1, x0, x3 => if x3 < (x0.length : Int) then (if 0 ≤ x3 then ((papermillref13_good.f k ((rd_T32 x0 x3).f0) ((rd_T32 x0 x3).f1) ((rd_T32 x0 x3).f2)).bind fun t16002 => (if t16002 = true then (papermillref13_Check.l0 k x0 (wrap64 (x3 + 1))) else (some 1))) else (none)) else ((papermillref13_length.f k x0).bind fun t16003 => (if t16003 > 17179869184 then (some 21) else (some 0)))
def papermillref13_Check.f (k : Nat) (l0 : List (S32)) : Option (Int) := if (l0.length : Int) > 256 then (some 8) else (papermillref13_Check.l0 k l0 0)
theorem papermillref13_Check.mono_l : ∀ k, (∀ y0 y1, LeO (papermillref13_Check.l0 k y0 y1) (papermillref13_Check.l0 (k + 1) y0 y1))
 | 0 => fun _ _ r h => by simp [papermillref13_Check.l0] at h
 | k + 1 => by
  have ih0 := papermillref13_Check.mono_l k
  ·intro y0 y1
   unfold papermillref13_Check.l0
   repeat' first
   | (with_reducible exact ih0 _ _)
   | (with_reducible exact papermillref13_good.mono _ _ _ _)
   | (with_reducible exact papermillref13_length.mono _ _)
   | (with_reducible exact LeO.refl _)
   | (with_reducible exact LeO.none _)
   | (with_reducible refine LeO.ite ?_ ?_)
   | (with_reducible refine LeO.bind ?_ (fun _ => ?_))
   | exact ih0 _ _
   | exact papermillref13_good.mono _ _ _ _
   | exact papermillref13_length.mono _ _
   | exact LeO.none _
   | refine LeO.ite ?_ ?_
   | refine LeO.bind ?_ (fun _ => ?_)
theorem papermillref13_Check.mono : ∀ a0 k, LeO (papermillref13_Check.f k a0) (papermillref13_Check.f (k + 1) a0) := by
 intro a0 k
 have ih0 := papermillref13_Check.mono_l k
 unfold papermillref13_Check.f
 repeat' first
   | (with_reducible exact ih0 _ _)
   | (with_reducible exact papermillref13_good.mono _ _ _ _)
   | (with_reducible exact papermillref13_length.mono _ _)
   | (with_reducible exact LeO.refl _)
   | (with_reducible exact LeO.none _)
   | (with_reducible refine LeO.ite ?_ ?_)
   | (with_reducible refine LeO.bind ?_ (fun _ => ?_))
   | exact ih0 _ _
   | exact papermillref13_good.mono _ _ _ _
   | exact papermillref13_length.mono _ _
   | exact LeO.none _
   | refine LeO.ite ?_ ?_
   | refine LeO.bind ?_ (fun _ => ?_)
set_option maxHeartbeats 8000000 in
set_option maxRecDepth 100000 in
theorem papermillref13_Check.calls (k : Nat) (A0 : Option Addr) (c0 : Nat) (l0 : List (S32)) (r : Int) (w : World) (hr0 : Kd.C k32 w A0 l0.length l0) (hc0 : l0.length ≤ c0) (h : papermillref13_Check.f k l0 = some r) :
  Calls Try.prog 15 #[.slice A0 l0.length c0] w fun e w' => e = .returned (.int .i64 r) ∧ Below w.heap.size w w' := by
 have hu32 := Try.underlying32
 have HR0 := Aside0.mk hr0
 have HC0 := Aside0.mk hc0
 clear hr0 hc0
 have HB := Aside0.mk (Below.refl w.heap.size w)
 have H : (if (l0.length : Int) > 256 then (some 8) else (papermillref13_Check.l0 k l0 0)) = some r := h
 clear h
 by_cases c2 : (l0.length : Int) > 256
 ·rw [if_pos c2] at H
  have c2b0 : decide (256 < (l0.length : Int)) = true := decide_eq_true c2
  have c2b1 : decide (256 < l0.length) = true := decide_eq_true (by omega)
  clear c2
  obtain rfl := Option.some.inj H
  go_enter Try.func15, Try.ntmps15
  go_wp2
  go_ret
  exact ⟨by first | rfl | (simp [errW_none, errW_some] <;> rfl) | (simp [*, errW_none, errW_some] <;> rfl), by repeat (first | exact HB.out | apply below_alloc | apply pw_below_drewN | apply below_drew1)⟩
 ·rw [if_neg c2] at H
  have c2b0 : decide (256 < (l0.length : Int)) = false := decide_eq_false c2
  have c2b1 : decide (256 < l0.length) = false := decide_eq_false (by omega)
  clear c2
  have H' := Aside0.mk H
  clear H
  go_enter Try.func15, Try.ntmps15
  go_wp2
  go_loopg [3] k (fun kq v3 w' => ∃ (x3_1 : Int), v3 = .int .i64 x3_1 ∧ Aside0 (papermillref13_Check.l0 kq l0 x3_1 = some r) ∧ Aside0 (kq ≤ k) ∧ Aside0 (Below w.heap.size w w'))
  case atStart => exact ⟨(0), (by first | rfl | (simp; done) | (simp [*]; done)), H', ⟨Nat.le_refl _⟩, ⟨by repeat (first | exact HB.out | apply below_alloc | apply pw_below_drewN | apply below_drew1)⟩⟩
  case round =>
   clear H'
   try clear c1
   try clear c2
   try clear c2b0
   try clear c2b1
   try clear p2
   obtain ⟨x3_1, rfl, HA, HK1, HB⟩ := hrel
   cases gk with
   | zero => exact absurd HA.out (by simp [papermillref13_Check.l0])
   | succ k1 =>
    have H := HA.out
    clear HA
    simp only [papermillref13_Check.l0] at H
    by_cases c3 : x3_1 < (l0.length : Int)
    ·rw [if_pos c3] at H
     have c3b0 : decide (x3_1 < (l0.length : Int)) = true := decide_eq_true c3
     clear c3
     by_cases c4 : 0 ≤ x3_1
     ·rw [if_pos c4] at H
      have c4b0 : decide (0 ≤ x3_1) = true := decide_eq_true c4
      clear c4
      replace H := Option.bind_eq_some_iff.mp H
      obtain ⟨t16002, A50, H⟩ := H
      replace H : (if t16002 = true then (papermillref13_Check.l0 k1 l0 (wrap64 (x3_1 + 1))) else (some 1)) = some r := H
      have A5 := Aside0.mk A50
      clear A50
      by_cases c6 : t16002 = true
      ·subst c6
       have H1 : (papermillref13_Check.l0 k1 l0 (wrap64 (x3_1 + 1))) = some r := by rw [if_pos rfl] at H; exact H
       clear H
       have H := H1
       clear H1
       have H' := Aside0.mk H
       clear H
       have p16001 : 0 ≤ (x3_1 : Int) := of_decide_eq_true (by assumption)
       have q16001 : x3_1 < (l0.length : Int) := of_decide_eq_true (by assumption)
       obtain ⟨ad16001, e16001, hx16001_0, hx16001_1, hx16001_2⟩ := at_T32 HR0.out x3_1 p16001 q16001
       cases e16001
       replace hx16001_0 := (HB.out.cell (World.block_lt_of_cell? w _ hx16001_0)).trans hx16001_0
       replace hx16001_1 := (HB.out.cell (World.block_lt_of_cell? w _ hx16001_1)).trans hx16001_1
       replace hx16001_2 := (HB.out.cell (World.block_lt_of_cell? w _ hx16001_2)).trans hx16001_2
       replace p16001 := eq_true p16001
       replace q16001 := eq_true q16001
       go_wp2_with (first | ((with_reducible refine gate_callee (f := 41) rfl ?_); refine goesL_ (some 17) rfl rfl Try.func41 (by kernel_rfl) rfl #[.agg #[.int .i64 ((rd_T32 l0 x3_1).f0), .int .i64 ((rd_T32 l0 x3_1).f1), .bool ((rd_T32 l0 x3_1).f2)]] rfl (by (try simp only [List.map_toArray, List.map_cons, List.map_nil]); first | done | rfl | (simp only [List.length_drop, List.length_take]; rfl)) ?_; (with_reducible refine (papermillref13_good.calls k1 ((rd_T32 l0 x3_1).f0) ((rd_T32 l0 x3_1).f1) ((rd_T32 l0 x3_1).f2) true _ A5.out).mono ?_); rintro e w7 ⟨rfl, hb⟩; refine ⟨_, rfl, ?_⟩; have n0_ := Aside0.mk (below_step (by repeat (first | exact HB.out | apply below_alloc | apply pw_below_drewN | apply below_drew1)) hb); clear HB; have HB := n0_; clear n0_; (try clear hb); (try clear hb2); (try clear hk); (try clear hi)))
       go_roundg k1
       case measure => have := HK1.out; omega
       case rel => exact ⟨(wrap64 (x3_1 + 1)), (by first | rfl | (simp; done) | (simp [*]; done)), H', ⟨by have := HK1.out; omega⟩, ⟨by repeat (first | exact HB.out | apply below_alloc | apply pw_below_drewN | apply below_drew1)⟩⟩
      ·replace c6 := Bool.eq_false_iff.mpr c6
       subst c6
       have H1 : (some 1) = some r := by rw [if_neg (show ¬ (false = true) by decide)] at H; first | exact H | simpa using H
       clear H
       have H := H1
       clear H1
       obtain rfl := Option.some.inj H
       have p16001 : 0 ≤ (x3_1 : Int) := of_decide_eq_true (by assumption)
       have q16001 : x3_1 < (l0.length : Int) := of_decide_eq_true (by assumption)
       obtain ⟨ad16001, e16001, hx16001_0, hx16001_1, hx16001_2⟩ := at_T32 HR0.out x3_1 p16001 q16001
       cases e16001
       replace hx16001_0 := (HB.out.cell (World.block_lt_of_cell? w _ hx16001_0)).trans hx16001_0
       replace hx16001_1 := (HB.out.cell (World.block_lt_of_cell? w _ hx16001_1)).trans hx16001_1
       replace hx16001_2 := (HB.out.cell (World.block_lt_of_cell? w _ hx16001_2)).trans hx16001_2
       replace p16001 := eq_true p16001
       replace q16001 := eq_true q16001
       go_wp2_with (first | ((with_reducible refine gate_callee (f := 41) rfl ?_); refine goesL_ (some 17) rfl rfl Try.func41 (by kernel_rfl) rfl #[.agg #[.int .i64 ((rd_T32 l0 x3_1).f0), .int .i64 ((rd_T32 l0 x3_1).f1), .bool ((rd_T32 l0 x3_1).f2)]] rfl (by (try simp only [List.map_toArray, List.map_cons, List.map_nil]); first | done | rfl | (simp only [List.length_drop, List.length_take]; rfl)) ?_; (with_reducible refine (papermillref13_good.calls k1 ((rd_T32 l0 x3_1).f0) ((rd_T32 l0 x3_1).f1) ((rd_T32 l0 x3_1).f2) false _ A5.out).mono ?_); rintro e w8 ⟨rfl, hb⟩; refine ⟨_, rfl, ?_⟩; have n0_ := Aside0.mk (below_step (by repeat (first | exact HB.out | apply below_alloc | apply pw_below_drewN | apply below_drew1)) hb); clear HB; have HB := n0_; clear n0_; (try clear hb); (try clear hb2); (try clear hk); (try clear hi)))
       go_ret
       exact ⟨by first | rfl | (simp [errW_none, errW_some] <;> rfl) | (simp [*, errW_none, errW_some] <;> rfl), by repeat (first | exact HB.out | apply below_alloc | apply pw_below_drewN | apply below_drew1)⟩
     ·rw [if_neg c4] at H
      exact absurd H (by simp)
    ·rw [if_neg c3] at H
     have c3b0 : decide (x3_1 < (l0.length : Int)) = false := decide_eq_false c3
     clear c3
     replace H := Option.bind_eq_some_iff.mp H
     obtain ⟨t16003, A90, H⟩ := H
     replace H : (if t16003 > 17179869184 then (some 21) else (some 0)) = some r := H
     have A9 := Aside0.mk A90
     clear A90
     by_cases c10 : t16003 > 17179869184
     ·rw [if_pos c10] at H
      have c10b0 : decide (17179869184 < t16003) = true := decide_eq_true c10
      clear c10
      obtain rfl := Option.some.inj H
      go_wp2_with (first | ((with_reducible refine gate_callee (f := 42) rfl ?_); refine goesL_ (some 20) rfl rfl Try.func42 (by kernel_rfl) rfl #[.slice A0 l0.length c0] rfl (by (try simp only [List.map_toArray, List.map_cons, List.map_nil]); first | done | rfl | (simp only [List.length_drop, List.length_take]; rfl)) ?_; (with_reducible refine (papermillref13_length.calls k1 _ _ l0 t16003 _ ?side1 ?side2 A9.out).mono ?_); (case side1 => exact (Kd.C_below HR0.out HB.out)); (case side2 => exact HC0.out); rintro e w' ⟨rfl, ⟨nd, rfl⟩⟩; refine ⟨_, rfl, ?_⟩))
      go_ret
      exact ⟨by first | rfl | (simp [errW_none, errW_some] <;> rfl) | (simp [*, errW_none, errW_some] <;> rfl), by repeat (first | exact HB.out | apply below_alloc | apply pw_below_drewN | apply below_drew1)⟩
     ·rw [if_neg c10] at H
      have c10b0 : decide (17179869184 < t16003) = false := decide_eq_false c10
      clear c10
      obtain rfl := Option.some.inj H
      go_wp2_with (first | ((with_reducible refine gate_callee (f := 42) rfl ?_); refine goesL_ (some 20) rfl rfl Try.func42 (by kernel_rfl) rfl #[.slice A0 l0.length c0] rfl (by (try simp only [List.map_toArray, List.map_cons, List.map_nil]); first | done | rfl | (simp only [List.length_drop, List.length_take]; rfl)) ?_; (with_reducible refine (papermillref13_length.calls k1 _ _ l0 t16003 _ ?side1 ?side2 A9.out).mono ?_); (case side1 => exact (Kd.C_below HR0.out HB.out)); (case side2 => exact HC0.out); rintro e w' ⟨rfl, ⟨nd, rfl⟩⟩; refine ⟨_, rfl, ?_⟩))
      go_ret
      exact ⟨by first | rfl | (simp [errW_none, errW_some] <;> rfl) | (simp [*, errW_none, errW_some] <;> rfl), by repeat (first | exact HB.out | apply below_alloc | apply pw_below_drewN | apply below_drew1)⟩

end Go.Proofs.Ytcnkmdonbpgjiaa.G

namespace Go.Proofs.Ytcnkmdonbpgjiaa.G
open Go.RowKit Go.Proofs.YtcnkmdonbpgjiaaW.PrintWords Go.Proofs.YtcnkmdonbpgjiaaW.PrintLast Go.Proofs.YtcnkmdonbpgjiaaW.PrintMore
attribute [local go_sem] max2_int min2_int max_two min_two max_three min_three max_four min_four   -- for this text's walks alone
set_option linter.unusedVariables false
set_option linter.unusedSimpArgs false

def papermillref13_image.f (a0_0 : Int) (a0_1 : Int) (a0_2 : Bool) (a1 : Int) : Option (Int) := if a0_2 = true then (some (wrap64 (a0_0 - a1))) else (some (wrap64 (a0_0 + a1)))
set_option maxHeartbeats 8000000 in
set_option maxRecDepth 100000 in
theorem papermillref13_image.calls (a0_0 : Int) (a0_1 : Int) (a0_2 : Bool) (a1 : Int) (r : Int) (w : World) (h : papermillref13_image.f a0_0 a0_1 a0_2 a1 = some r) :
    Calls Try.prog 53 #[.agg #[.int .i64 a0_0, .int .i64 a0_1, .bool a0_2], .int .i64 a1] w fun e w' => e = .returned (.int .i64 r) ∧ Below w.heap.size w w' := by
  have hu32 := Try.underlying32
  have HB := Aside0.mk (Below.refl w.heap.size w)
  have H : (if a0_2 = true then (some (wrap64 (a0_0 - a1))) else (some (wrap64 (a0_0 + a1)))) = some r := h
  clear h
  by_cases c3 : a0_2 = true
  · subst c3
    have H1 : (some (wrap64 (a0_0 - a1))) = some r := by rw [if_pos rfl] at H; exact H
    clear H
    have H := H1
    clear H1
    obtain rfl := Option.some.inj H
    go_enter Try.func53, Try.ntmps53
    go_wp2_with (first | ((with_reducible refine gate_dst (N := 2) rfl ?_); refine box_event ?hg (N := 2) ?hd (cs := #[.int .i64 a0_0, .int .i64 a0_1, .bool true]) (t := 32) ?hr ?_; (case hd => rfl); (case hg => rfl); (case hr => first | (go_simp; done) | (go_simp; rfl)); intro gb54001 hg w4 hbox hb; have n0_ := Aside0.mk (below_step (by repeat (first | exact HB.out | apply below_alloc | apply pw_below_drewN | apply below_drew1)) hb); have n1_ := Aside0.mk (hbox); have n2_ := Aside0.mk ((by rw [hg]; exact (below_size (by repeat (first | exact HB.out | apply below_alloc | apply pw_below_drewN | apply below_drew1))) : w.heap.size ≤ gb54001)); have n3_ := Aside0.mk ((by rw [hg]; exact (below_size (by repeat (first | exact HB.out | apply below_alloc | apply pw_below_drewN | apply below_drew1))) : w.heap.size ≤ gb54001)); clear HB; have HB := n0_; have BK54001 := n1_; have GW54001 := n2_; have GE54001 := n3_; clear n0_ n1_ n2_ n3_; clear hb hbox hg; have hcz5_0 : w4.cell? ⟨gb54001, 0, none⟩ = some (.int .i64 a0_0) := (blk_cell BK54001.out 0).trans rfl; have hcz5_1 : w4.cell? ⟨gb54001, 1, none⟩ = some (.int .i64 a0_1) := (blk_cell BK54001.out 1).trans rfl; have hcz5_2 : w4.cell? ⟨gb54001, 2, none⟩ = some (.bool true) := (blk_cell BK54001.out 2).trans rfl; have hfz5_0 := blk_frozen BK54001.out 0; have hfz5_1 := blk_frozen BK54001.out 1; have hfz5_2 := blk_frozen BK54001.out 2))
    go_ret
    exact ⟨by first | rfl | (simp [errW_none, errW_some] <;> rfl) | (simp [*, errW_none, errW_some] <;> rfl), by repeat (first | exact HB.out | apply below_alloc | apply pw_below_drewN | apply below_drew1 | refine below_set ?_ GE54001.out)⟩
  · replace c3 := Bool.eq_false_iff.mpr c3
    subst c3
    have H1 : (some (wrap64 (a0_0 + a1))) = some r := by rw [if_neg (show ¬ (false = true) by decide)] at H; first | exact H | simpa using H
    clear H
    have H := H1
    clear H1
    obtain rfl := Option.some.inj H
    go_enter Try.func53, Try.ntmps53
    go_wp2_with (first | ((with_reducible refine gate_dst (N := 2) rfl ?_); refine box_event ?hg (N := 2) ?hd (cs := #[.int .i64 a0_0, .int .i64 a0_1, .bool false]) (t := 32) ?hr ?_; (case hd => rfl); (case hg => rfl); (case hr => first | (go_simp; done) | (go_simp; rfl)); intro gb54001 hg w6 hbox hb; have n0_ := Aside0.mk (below_step (by repeat (first | exact HB.out | apply below_alloc | apply pw_below_drewN | apply below_drew1)) hb); have n1_ := Aside0.mk (hbox); have n2_ := Aside0.mk ((by rw [hg]; exact (below_size (by repeat (first | exact HB.out | apply below_alloc | apply pw_below_drewN | apply below_drew1))) : w.heap.size ≤ gb54001)); have n3_ := Aside0.mk ((by rw [hg]; exact (below_size (by repeat (first | exact HB.out | apply below_alloc | apply pw_below_drewN | apply below_drew1))) : w.heap.size ≤ gb54001)); clear HB; have HB := n0_; have BK54001 := n1_; have GW54001 := n2_; have GE54001 := n3_; clear n0_ n1_ n2_ n3_; clear hb hbox hg; have hcz7_0 : w6.cell? ⟨gb54001, 0, none⟩ = some (.int .i64 a0_0) := (blk_cell BK54001.out 0).trans rfl; have hcz7_1 : w6.cell? ⟨gb54001, 1, none⟩ = some (.int .i64 a0_1) := (blk_cell BK54001.out 1).trans rfl; have hcz7_2 : w6.cell? ⟨gb54001, 2, none⟩ = some (.bool false) := (blk_cell BK54001.out 2).trans rfl; have hfz7_0 := blk_frozen BK54001.out 0; have hfz7_1 := blk_frozen BK54001.out 1; have hfz7_2 := blk_frozen BK54001.out 2))
    go_ret
    exact ⟨by first | rfl | (simp [errW_none, errW_some] <;> rfl) | (simp [*, errW_none, errW_some] <;> rfl), by repeat (first | exact HB.out | apply below_alloc | apply pw_below_drewN | apply below_drew1 | refine below_set ?_ GE54001.out)⟩

end Go.Proofs.Ytcnkmdonbpgjiaa.G

namespace Go.Proofs.Ytcnkmdonbpgjiaa.G
open Go.RowKit Go.Proofs.YtcnkmdonbpgjiaaW.PrintWords Go.Proofs.YtcnkmdonbpgjiaaW.PrintLast Go.Proofs.YtcnkmdonbpgjiaaW.PrintMore
attribute [local go_sem] max2_int min2_int max_two min_two max_three min_three max_four min_four   -- for this text's walks alone
set_option linter.unusedVariables false
set_option linter.unusedSimpArgs false

def papermillref13_cut.f (a0_0 : Int) (a0_1 : Int) (a0_2 : Bool) (a1 : Int) (a2 : Int) : Option (Int × Int × Bool) := (papermillref13_image.f a0_0 a0_1 a0_2 a1).bind fun t65003 => (if a0_2 = true then (some (t65003, a2, decide (a2 > 1))) else (some (t65003, a2, false)))
def papermillref13_cut.T1 : Bool × List (List Nat × List Nat) := (true, [([], []), ([], []), ([0, 1], [0, 1]), ([], []), ([], []), ([4], [4]), ([5, 2], [5]), ([6], [6]), ([7, 6], [6, 7]), ([6, 8], [6, 8]), ([2, 3, 9], [2, 3, 9]), ([10, 6, 0, 1, 2, 3, 4, 5, 6, 7, 8, 9, 10], [10])])
def papermillref13_cut.B1 : List Nat := [0, 0, 3, 0, 0, 16, 55, 119, 247, 503, 1023, 2047]
theorem papermillref13_cut.tab1 : rtab .any (opsOf Try.f64 1) = papermillref13_cut.T1 := by kernel_rfl
theorem papermillref13_cut.bits1 : waitsOk papermillref13_cut.T1.2 papermillref13_cut.B1 = true := by kernel_rfl
set_option maxHeartbeats 8000000 in
set_option maxRecDepth 100000 in
theorem papermillref13_cut.calls (a0_0 : Int) (a0_1 : Int) (a0_2 : Bool) (a1 : Int) (a2 : Int) (r1 : Int) (r2 : Int) (r3 : Bool) (w : World) (h : papermillref13_cut.f a0_0 a0_1 a0_2 a1 a2 = some (r1, r2, r3)) :
  Calls Try.prog 64 #[.agg #[.int .i64 a0_0, .int .i64 a0_1, .bool a0_2], .int .i64 a1, .int .i64 a2] w fun e w' => e = .returned (.agg #[.int .i64 r1, .int .i64 r2, .bool r3]) ∧ Below w.heap.size w w' := by
 have hu32 := Try.underlying32
 have HB := Aside0.mk (Below.refl w.heap.size w)
 have H : ((papermillref13_image.f a0_0 a0_1 a0_2 a1).bind fun t65003 => (if a0_2 = true then (some (t65003, a2, decide (a2 > 1))) else (some (t65003, a2, false)))) = some (r1, r2, r3) := h
 clear h
 replace H := Option.bind_eq_some_iff.mp H
 obtain ⟨t65003, A40, H⟩ := H
 replace H : (if a0_2 = true then (some (t65003, a2, decide (a2 > 1))) else (some (t65003, a2, false))) = some (r1, r2, r3) := H
 have A4 := Aside0.mk A40
 clear A40
 by_cases c5 : a0_2 = true
 ·subst c5
  have H1 : (some (t65003, a2, decide (a2 > 1))) = some (r1, r2, r3) := by rw [if_pos rfl] at H; exact H
  clear H
  have H := H1
  clear H1
  simp only [Option.some.injEq, Prod.mk.injEq] at H
  obtain ⟨rfl, rfl, rfl⟩ := H
  go_enter Try.func64, Try.ntmps64
  try go_wp2_with (first | ((with_reducible refine gate_dst (N := 3) rfl ?_); refine box_event ?hg (N := 3) ?hd (cs := #[.int .i64 a0_0, .int .i64 a0_1, .bool true]) (t := 32) ?hr ?_; (case hd => rfl); (case hg => rfl); (case hr => first | (go_simp; done) | (go_simp; rfl)); intro gb65001 hg w6 hbox hb; have n0_ := Aside0.mk (below_step (by repeat (first | exact HB.out | apply below_alloc | apply pw_below_drewN | apply below_drew1)) hb); have n1_ := Aside0.mk (hbox); have n2_ := Aside0.mk ((by rw [hg]; exact (below_size (by repeat (first | exact HB.out | apply below_alloc | apply pw_below_drewN | apply below_drew1))) : w.heap.size ≤ gb65001)); have n3_ := Aside0.mk ((by rw [hg]; exact (below_size (by repeat (first | exact HB.out | apply below_alloc | apply pw_below_drewN | apply below_drew1))) : w.heap.size ≤ gb65001)); clear HB; have HB := n0_; have BK65001 := n1_; have GW65001 := n2_; have GE65001 := n3_; clear n0_ n1_ n2_ n3_; clear hb hbox hg) | ((with_reducible refine gate_dst (N := 6) rfl ?_); refine box_event ?hg (N := 6) ?hd (cs := #[.int .i64 0, .int .i64 0, .bool false]) (t := 32) ?hr ?_; (case hd => rfl); (case hg => rfl); (case hr => first | (go_simp; done) | (go_simp; rfl)); intro gb65002 hg w7 hbox hb; have n0_ := Aside0.mk (blk_below (g := gb65001) (o := .cells #[.int .i64 a0_0, .int .i64 a0_1, .bool true] 32 (0, 0)) (BK65001.out) hb); have n1_ := Aside0.mk (below_step (by repeat (first | exact HB.out | apply below_alloc | apply pw_below_drewN | apply below_drew1 | refine below_set ?_ GE65001.out)) hb); have n2_ := Aside0.mk (hbox); have n3_ := Aside0.mk ((by rw [hg]; exact (below_size (by repeat (first | exact HB.out | apply below_alloc | apply pw_below_drewN | apply below_drew1 | refine below_set ?_ GE65001.out))) : w.heap.size ≤ gb65002)); have n4_ := Aside0.mk ((by rw [hg]; exact (below_size (by repeat (first | exact HB.out | apply below_alloc | apply pw_below_drewN | apply below_drew1 | refine below_set ?_ GE65001.out))) : w.heap.size ≤ gb65002)); have n5_ := Aside0.mk ((by rw [hg]; exact Nat.ne_of_lt (blk_lt (g := gb65001) (o := .cells #[.int .i64 a0_0, .int .i64 a0_1, .bool true] 32 (0, 0)) (BK65001.out)) : gb65001 ≠ gb65002)); have n6_ := Aside0.mk ((by rw [hg]; exact Nat.ne_of_gt (blk_lt (g := gb65001) (o := .cells #[.int .i64 a0_0, .int .i64 a0_1, .bool true] 32 (0, 0)) (BK65001.out)) : gb65002 ≠ gb65001)); clear BK65001; clear HB; have BK65001 := n0_; have HB := n1_; have BK65002 := n2_; have GW65002 := n3_; have GE65002 := n4_; have NB65001_65002 := n5_; have NB65002_65001 := n6_; clear n0_ n1_ n2_ n3_ n4_ n5_ n6_; clear hb hbox hg))
  have n0_ := Aside0.mk (blk_drew BK65001.out)
  have n1_ := Aside0.mk (blk_drew BK65002.out)
  have n2_ := Aside0.mk (below_drew1 HB.out)
  clear BK65001
  clear BK65002
  clear HB
  have BK65001 := n0_
  have BK65002 := n1_
  have HB := n2_
  clear n0_ n1_ n2_
  refine start_ (n := 12) (S := fun w' => w'.cell? ⟨gb65001, 0, none⟩ = some (.int .i64 a0_0) ∧ w'.cell? ⟨gb65001, 1, none⟩ = some (.int .i64 a0_1) ∧ w'.cell? ⟨gb65001, 2, none⟩ = some (.bool true)) (ds := []) #[false, false, false, false, false, false, false, false, false, false, false, false] (by kernel_rfl) rfl rfl ⟨(blk_cell BK65001.out 0).trans rfl, (blk_cell BK65001.out 1).trans rfl, (blk_cell BK65001.out 2).trans rfl⟩ (fun hHeld => ?_); refine with_tabW papermillref13_cut.tab1 papermillref13_cut.bits1 (fun HT_ HW_ => ?_)
  generalize w7.drew = w8 at BK65001 BK65002 HB hHeld ⊢
  refine pure_ (i := 1) (N := some 8) (v := ?_) (a' := ?_) #[false, true, false, false, false, false, false, false, false, false, false, false] rfl rfl (any_of HT_.out (by kernel_rfl)) (fun _ _ _ h => h) (Or.inl ⟨by rfl, ?_⟩) ?_ ?_
  rotate_left
  ·intro w'
   go_simp
   with_reducible rfl
  rotate_left
  ·simp only [Act.put, List.setIfInBounds_toArray, List.set_cons_zero, List.set_cons_succ, i64_w, i32_w]
   rfl
  refine pure_ (i := 3) (N := some 10) (v := ?_) (a' := ?_) #[false, true, false, true, false, false, false, false, false, false, false, false] rfl rfl (any_of HT_.out (by kernel_rfl)) (fun _ _ _ h => h) (Or.inl ⟨by rfl, ?_⟩) ?_ ?_
  rotate_left
  ·intro w'
   go_simp
   with_reducible rfl
  rotate_left
  ·simp only [Act.put, List.setIfInBounds_toArray, List.set_cons_zero, List.set_cons_succ, i64_w, i32_w]
   rfl
  refine pure_ (i := 4) (N := some 11) (v := ?_) (a' := ?_) #[false, true, false, true, true, false, false, false, false, false, false, false] rfl rfl (any_of HT_.out (by kernel_rfl)) (fun _ _ _ h => h) (Or.inl ⟨by rfl, ?_⟩) ?_ ?_
  rotate_left
  ·intro w'
   go_simp
   with_reducible rfl
  rotate_left
  ·simp only [Act.put, List.setIfInBounds_toArray, List.set_cons_zero, List.set_cons_succ, i64_w, i32_w]
   rfl
  refine take_ (i := 0) (N := some 7) (v := ?_) (a' := ?_) #[true, true, false, true, true, false, false, false, false, false, false, false] rfl rfl (take_ofW HT_.out HW_.out (by kernel_rfl)) (fun _ _ _ h => h) (Or.inl ⟨by rfl, ?_⟩) hHeld ?_ ?_
  rotate_left
  ·rintro w' ⟨s0, s1, s2⟩
   go_simp
   with_reducible rfl
  rotate_left
  ·simp only [Act.put, List.setIfInBounds_toArray, List.set_cons_zero, List.set_cons_succ, i64_w, i32_w]
   rfl
  refine take_ (i := 5) (N := some 12) (v := ?_) (a' := ?_) #[true, true, false, true, true, true, false, false, false, false, false, false] rfl rfl (take_ofW HT_.out HW_.out (by kernel_rfl)) (fun _ _ _ h => h) (Or.inl ⟨by rfl, ?_⟩) hHeld ?_ ?_
  rotate_left
  ·rintro w' ⟨s0, s1, s2⟩
   go_simp
   with_reducible rfl
  rotate_left
  ·simp only [Act.put, List.setIfInBounds_toArray, List.set_cons_zero, List.set_cons_succ, i64_w, i32_w]
   rfl
  refine one_ (i := 2) (N := some 9) #[true, true, true, true, true, true, false, false, false, false, false, false] rfl rfl (one_of HT_.out (by kernel_rfl)) (by decide) (fun K hK => ?_)
  refine goes_ Try.func53 (by kernel_rfl) rfl #[.agg #[.int .i64 a0_0, .int .i64 a0_1, .bool true], .int .i64 a1] (by rfl) rfl rfl (by (try simp only [List.map_toArray, List.map_cons, List.map_nil]); first | done | rfl | (simp only [List.length_drop, List.length_take]; rfl)) ?_
  with_reducible refine (papermillref13_image.calls a0_0 a0_1 true a1 t65003 _ A4.out).mono ?_
  rintro e w9 ⟨rfl, hb⟩
  refine ⟨_, rfl, ?_⟩
  have n0_ := Aside0.mk (blk_below (g := gb65001) (o := .cells #[.int .i64 a0_0, .int .i64 a0_1, .bool true] 32 (0, 0)) (BK65001.out) hb)
  have n1_ := Aside0.mk (blk_below (g := gb65002) (o := .cells #[.int .i64 0, .int .i64 0, .bool false] 32 (0, 0)) (BK65002.out) hb)
  have n2_ := Aside0.mk (below_step (by repeat (first | exact HB.out | apply below_alloc | apply pw_below_drewN | apply below_drew1 | refine below_set ?_ GE65001.out | refine below_set ?_ GE65002.out)) hb)
  clear BK65001
  clear BK65002
  clear HB
  have BK65001 := n0_
  have BK65002 := n1_
  have HB := n2_
  clear n0_ n1_ n2_
  (try clear hb)
  (try clear hb2)
  (try clear hk)
  (try clear hi)
  refine hK.out _ _ ⟨(blk_cell BK65001.out 0).trans rfl, (blk_cell BK65001.out 1).trans rfl, (blk_cell BK65001.out 2).trans rfl⟩ (fun hHeld => ?_)
  clear hK K
  refine norm_ (a' := ?_) ?_ ?_
  rotate_left
  ·show Act.put _ (some 9) _ = _
   simp only [Act.put, List.setIfInBounds_toArray, List.set_cons_zero, List.set_cons_succ, i64_w, i32_w]
   rfl
  refine pure_ (i := 6) (N := some 13) (v := ?_) (a' := ?_) #[true, true, true, true, true, true, true, false, false, false, false, false] rfl rfl (any_of HT_.out (by kernel_rfl)) (fun _ _ _ h => h) (Or.inl ⟨by rfl, ?_⟩) ?_ ?_
  rotate_left
  ·intro w'
   go_simp
   with_reducible rfl
  rotate_left
  ·simp only [Act.put, List.setIfInBounds_toArray, List.set_cons_zero, List.set_cons_succ, i64_w, i32_w]
   rfl
  refine pure_ (i := 7) (N := some 14) (v := ?_) (a' := ?_) #[true, true, true, true, true, true, true, true, false, false, false, false] rfl rfl (any_of HT_.out (by kernel_rfl)) (fun _ _ _ h => h) (Or.inl ⟨by rfl, ?_⟩) ?_ ?_
  rotate_left
  ·intro w'
   go_simp
   with_reducible rfl
  rotate_left
  ·simp only [Act.put, List.setIfInBounds_toArray, List.set_cons_zero, List.set_cons_succ, i64_w, i32_w]
   rfl
  refine pure_ (i := 8) (N := some 15) (v := ?_) (a' := ?_) #[true, true, true, true, true, true, true, true, true, false, false, false] rfl rfl (any_of HT_.out (by kernel_rfl)) (fun _ _ _ h => h) (Or.inl ⟨by rfl, ?_⟩) ?_ ?_
  rotate_left
  ·intro w'
   go_simp
   with_reducible rfl
  rotate_left
  ·simp only [Act.put, List.setIfInBounds_toArray, List.set_cons_zero, List.set_cons_succ, i64_w, i32_w]
   rfl
  refine pure_ (i := 9) (N := some 16) (v := ?_) (a' := ?_) #[true, true, true, true, true, true, true, true, true, true, false, false] rfl rfl (any_of HT_.out (by kernel_rfl)) (fun _ _ _ h => h) (Or.inl ⟨by rfl, ?_⟩) ?_ ?_
  rotate_left
  ·intro w'
   go_simp
   with_reducible rfl
  rotate_left
  ·simp only [Act.put, List.setIfInBounds_toArray, List.set_cons_zero, List.set_cons_succ, i64_w, i32_w]
   rfl
  refine pure_ (i := 10) (N := some 17) (v := ?_) (a' := ?_) #[true, true, true, true, true, true, true, true, true, true, true, false] rfl rfl (any_of HT_.out (by kernel_rfl)) (fun _ _ _ h => h) (Or.inl ⟨by rfl, ?_⟩) ?_ ?_
  rotate_left
  ·intro w'
   go_simp
   with_reducible rfl
  rotate_left
  ·simp only [Act.put, List.setIfInBounds_toArray, List.set_cons_zero, List.set_cons_succ, i64_w, i32_w]
   rfl
  refine one_ (i := 11) (N := none) #[true, true, true, true, true, true, true, true, true, true, true, true] rfl rfl (one_of HT_.out (by kernel_rfl)) (by decide) (fun K hK => ?_)
  have hs10 : w9.cell? ⟨gb65002, 0, none⟩ = some (.int .i64 0) := (blk_cell BK65002.out 0).trans rfl
  have hfs10 := blk_frozen BK65002.out 0
  have hns10_0 := NB65001_65002.out
  have hms10_0 := NB65002_65001.out
  have hs11 : w9.cell? ⟨gb65002, 1, none⟩ = some (.int .i64 0) := (blk_cell BK65002.out 1).trans rfl
  have hfs11 := blk_frozen BK65002.out 1
  have hns11_0 := NB65001_65002.out
  have hms11_0 := NB65002_65001.out
  have hs12 : w9.cell? ⟨gb65002, 2, none⟩ = some (.bool false) := (blk_cell BK65002.out 2).trans rfl
  have hfs12 := blk_frozen BK65002.out 2
  have hns12_0 := NB65001_65002.out
  have hms12_0 := NB65002_65001.out
  refine skip_ (w1 := ?_) (by rfl) rfl ?_ ?_
  rotate_left
  ·go_simp
   rfl
  refine hK.out _ _ ⟨((cell_far (p := ⟨gb65002, _, none⟩) NB65001_65002.out _).trans (((cell_far (p := ⟨gb65002, _, none⟩) NB65001_65002.out _).trans (((cell_far (p := ⟨gb65002, _, none⟩) NB65001_65002.out _).trans (hHeld.1)))))), ((cell_far (p := ⟨gb65002, _, none⟩) NB65001_65002.out _).trans (((cell_far (p := ⟨gb65002, _, none⟩) NB65001_65002.out _).trans (((cell_far (p := ⟨gb65002, _, none⟩) NB65001_65002.out _).trans (hHeld.2.1)))))), ((cell_far (p := ⟨gb65002, _, none⟩) NB65001_65002.out _).trans (((cell_far (p := ⟨gb65002, _, none⟩) NB65001_65002.out _).trans (((cell_far (p := ⟨gb65002, _, none⟩) NB65001_65002.out _).trans (hHeld.2.2))))))⟩ (fun hHeld => ?_)
  clear hK K
  refine done_ (done_of HT_.out (by kernel_rfl)) ?_
  try go_wp2
  refine bodyPost_ret (results_cell_row rfl _ _ gb65002 32 #[.int .i64 t65003, .int .i64 a2, .bool (decide (a2 > 1))] (0, 0) _ rfl (by refine blk_put (cs := #[.int .i64 t65003, .int .i64 a2, .bool false]) ?_ 2 _ rfl; refine blk_put (cs := #[.int .i64 t65003, .int .i64 0, .bool false]) ?_ 1 _ rfl; refine blk_put (cs := #[.int .i64 0, .int .i64 0, .bool false]) ?_ 0 _ rfl; exact BK65002.out) Try.underlying32 rfl (by kernel_rfl)) rfl ?_
  exact ⟨by first | rfl | (simp [errW_none, errW_some] <;> rfl) | (simp [*, errW_none, errW_some] <;> rfl), by repeat (first | exact HB.out | apply below_alloc | apply pw_below_drewN | apply below_drew1 | refine below_set ?_ GE65001.out | refine below_set ?_ GE65002.out)⟩
 ·replace c5 := Bool.eq_false_iff.mpr c5
  subst c5
  have H1 : (some (t65003, a2, false)) = some (r1, r2, r3) := by rw [if_neg (show ¬ (false = true) by decide)] at H; first | exact H | simpa using H
  clear H
  have H := H1
  clear H1
  simp only [Option.some.injEq, Prod.mk.injEq] at H
  obtain ⟨rfl, rfl, rfl⟩ := H
  go_enter Try.func64, Try.ntmps64
  try go_wp2_with (first | ((with_reducible refine gate_dst (N := 3) rfl ?_); refine box_event ?hg (N := 3) ?hd (cs := #[.int .i64 a0_0, .int .i64 a0_1, .bool false]) (t := 32) ?hr ?_; (case hd => rfl); (case hg => rfl); (case hr => first | (go_simp; done) | (go_simp; rfl)); intro gb65001 hg w13 hbox hb; have n0_ := Aside0.mk (below_step (by repeat (first | exact HB.out | apply below_alloc | apply pw_below_drewN | apply below_drew1)) hb); have n1_ := Aside0.mk (hbox); have n2_ := Aside0.mk ((by rw [hg]; exact (below_size (by repeat (first | exact HB.out | apply below_alloc | apply pw_below_drewN | apply below_drew1))) : w.heap.size ≤ gb65001)); have n3_ := Aside0.mk ((by rw [hg]; exact (below_size (by repeat (first | exact HB.out | apply below_alloc | apply pw_below_drewN | apply below_drew1))) : w.heap.size ≤ gb65001)); clear HB; have HB := n0_; have BK65001 := n1_; have GW65001 := n2_; have GE65001 := n3_; clear n0_ n1_ n2_ n3_; clear hb hbox hg) | ((with_reducible refine gate_dst (N := 6) rfl ?_); refine box_event ?hg (N := 6) ?hd (cs := #[.int .i64 0, .int .i64 0, .bool false]) (t := 32) ?hr ?_; (case hd => rfl); (case hg => rfl); (case hr => first | (go_simp; done) | (go_simp; rfl)); intro gb65002 hg w14 hbox hb; have n0_ := Aside0.mk (blk_below (g := gb65001) (o := .cells #[.int .i64 a0_0, .int .i64 a0_1, .bool false] 32 (0, 0)) (BK65001.out) hb); have n1_ := Aside0.mk (below_step (by repeat (first | exact HB.out | apply below_alloc | apply pw_below_drewN | apply below_drew1 | refine below_set ?_ GE65001.out)) hb); have n2_ := Aside0.mk (hbox); have n3_ := Aside0.mk ((by rw [hg]; exact (below_size (by repeat (first | exact HB.out | apply below_alloc | apply pw_below_drewN | apply below_drew1 | refine below_set ?_ GE65001.out))) : w.heap.size ≤ gb65002)); have n4_ := Aside0.mk ((by rw [hg]; exact (below_size (by repeat (first | exact HB.out | apply below_alloc | apply pw_below_drewN | apply below_drew1 | refine below_set ?_ GE65001.out))) : w.heap.size ≤ gb65002)); have n5_ := Aside0.mk ((by rw [hg]; exact Nat.ne_of_lt (blk_lt (g := gb65001) (o := .cells #[.int .i64 a0_0, .int .i64 a0_1, .bool false] 32 (0, 0)) (BK65001.out)) : gb65001 ≠ gb65002)); have n6_ := Aside0.mk ((by rw [hg]; exact Nat.ne_of_gt (blk_lt (g := gb65001) (o := .cells #[.int .i64 a0_0, .int .i64 a0_1, .bool false] 32 (0, 0)) (BK65001.out)) : gb65002 ≠ gb65001)); clear BK65001; clear HB; have BK65001 := n0_; have HB := n1_; have BK65002 := n2_; have GW65002 := n3_; have GE65002 := n4_; have NB65001_65002 := n5_; have NB65002_65001 := n6_; clear n0_ n1_ n2_ n3_ n4_ n5_ n6_; clear hb hbox hg))
  have n0_ := Aside0.mk (blk_drew BK65001.out)
  have n1_ := Aside0.mk (blk_drew BK65002.out)
  have n2_ := Aside0.mk (below_drew1 HB.out)
  clear BK65001
  clear BK65002
  clear HB
  have BK65001 := n0_
  have BK65002 := n1_
  have HB := n2_
  clear n0_ n1_ n2_
  refine start_ (n := 12) (S := fun w' => w'.cell? ⟨gb65001, 0, none⟩ = some (.int .i64 a0_0) ∧ w'.cell? ⟨gb65001, 1, none⟩ = some (.int .i64 a0_1) ∧ w'.cell? ⟨gb65001, 2, none⟩ = some (.bool false)) (ds := []) #[false, false, false, false, false, false, false, false, false, false, false, false] (by kernel_rfl) rfl rfl ⟨(blk_cell BK65001.out 0).trans rfl, (blk_cell BK65001.out 1).trans rfl, (blk_cell BK65001.out 2).trans rfl⟩ (fun hHeld => ?_); refine with_tabW papermillref13_cut.tab1 papermillref13_cut.bits1 (fun HT_ HW_ => ?_)
  generalize w14.drew = w15 at BK65001 BK65002 HB hHeld ⊢
  refine pure_ (i := 1) (N := some 8) (v := ?_) (a' := ?_) #[false, true, false, false, false, false, false, false, false, false, false, false] rfl rfl (any_of HT_.out (by kernel_rfl)) (fun _ _ _ h => h) (Or.inl ⟨by rfl, ?_⟩) ?_ ?_
  rotate_left
  ·intro w'
   go_simp
   with_reducible rfl
  rotate_left
  ·simp only [Act.put, List.setIfInBounds_toArray, List.set_cons_zero, List.set_cons_succ, i64_w, i32_w]
   rfl
  refine pure_ (i := 3) (N := some 10) (v := ?_) (a' := ?_) #[false, true, false, true, false, false, false, false, false, false, false, false] rfl rfl (any_of HT_.out (by kernel_rfl)) (fun _ _ _ h => h) (Or.inl ⟨by rfl, ?_⟩) ?_ ?_
  rotate_left
  ·intro w'
   go_simp
   with_reducible rfl
  rotate_left
  ·simp only [Act.put, List.setIfInBounds_toArray, List.set_cons_zero, List.set_cons_succ, i64_w, i32_w]
   rfl
  refine pure_ (i := 4) (N := some 11) (v := ?_) (a' := ?_) #[false, true, false, true, true, false, false, false, false, false, false, false] rfl rfl (any_of HT_.out (by kernel_rfl)) (fun _ _ _ h => h) (Or.inl ⟨by rfl, ?_⟩) ?_ ?_
  rotate_left
  ·intro w'
   go_simp
   with_reducible rfl
  rotate_left
  ·simp only [Act.put, List.setIfInBounds_toArray, List.set_cons_zero, List.set_cons_succ, i64_w, i32_w]
   rfl
  refine take_ (i := 0) (N := some 7) (v := ?_) (a' := ?_) #[true, true, false, true, true, false, false, false, false, false, false, false] rfl rfl (take_ofW HT_.out HW_.out (by kernel_rfl)) (fun _ _ _ h => h) (Or.inl ⟨by rfl, ?_⟩) hHeld ?_ ?_
  rotate_left
  ·rintro w' ⟨s0, s1, s2⟩
   go_simp
   with_reducible rfl
  rotate_left
  ·simp only [Act.put, List.setIfInBounds_toArray, List.set_cons_zero, List.set_cons_succ, i64_w, i32_w]
   rfl
  refine take_ (i := 5) (N := some 12) (v := ?_) (a' := ?_) #[true, true, false, true, true, true, false, false, false, false, false, false] rfl rfl (take_ofW HT_.out HW_.out (by kernel_rfl)) (fun _ _ _ h => h) (Or.inl ⟨by rfl, ?_⟩) hHeld ?_ ?_
  rotate_left
  ·rintro w' ⟨s0, s1, s2⟩
   go_simp
   with_reducible rfl
  rotate_left
  ·simp only [Act.put, List.setIfInBounds_toArray, List.set_cons_zero, List.set_cons_succ, i64_w, i32_w]
   rfl
  refine one_ (i := 2) (N := some 9) #[true, true, true, true, true, true, false, false, false, false, false, false] rfl rfl (one_of HT_.out (by kernel_rfl)) (by decide) (fun K hK => ?_)
  refine goes_ Try.func53 (by kernel_rfl) rfl #[.agg #[.int .i64 a0_0, .int .i64 a0_1, .bool false], .int .i64 a1] (by rfl) rfl rfl (by (try simp only [List.map_toArray, List.map_cons, List.map_nil]); first | done | rfl | (simp only [List.length_drop, List.length_take]; rfl)) ?_
  with_reducible refine (papermillref13_image.calls a0_0 a0_1 false a1 t65003 _ A4.out).mono ?_
  rintro e w16 ⟨rfl, hb⟩
  refine ⟨_, rfl, ?_⟩
  have n0_ := Aside0.mk (blk_below (g := gb65001) (o := .cells #[.int .i64 a0_0, .int .i64 a0_1, .bool false] 32 (0, 0)) (BK65001.out) hb)
  have n1_ := Aside0.mk (blk_below (g := gb65002) (o := .cells #[.int .i64 0, .int .i64 0, .bool false] 32 (0, 0)) (BK65002.out) hb)
  have n2_ := Aside0.mk (below_step (by repeat (first | exact HB.out | apply below_alloc | apply pw_below_drewN | apply below_drew1 | refine below_set ?_ GE65001.out | refine below_set ?_ GE65002.out)) hb)
  clear BK65001
  clear BK65002
  clear HB
  have BK65001 := n0_
  have BK65002 := n1_
  have HB := n2_
  clear n0_ n1_ n2_
  (try clear hb)
  (try clear hb2)
  (try clear hk)
  (try clear hi)
  refine hK.out _ _ ⟨(blk_cell BK65001.out 0).trans rfl, (blk_cell BK65001.out 1).trans rfl, (blk_cell BK65001.out 2).trans rfl⟩ (fun hHeld => ?_)
  clear hK K
  refine norm_ (a' := ?_) ?_ ?_
  rotate_left
  ·show Act.put _ (some 9) _ = _
   simp only [Act.put, List.setIfInBounds_toArray, List.set_cons_zero, List.set_cons_succ, i64_w, i32_w]
   rfl
  refine pure_ (i := 6) (N := some 13) (v := ?_) (a' := ?_) #[true, true, true, true, true, true, true, false, false, false, false, false] rfl rfl (any_of HT_.out (by kernel_rfl)) (fun _ _ _ h => h) (Or.inl ⟨by rfl, ?_⟩) ?_ ?_
  rotate_left
  ·intro w'
   go_simp
   with_reducible rfl
  rotate_left
  ·simp only [Act.put, List.setIfInBounds_toArray, List.set_cons_zero, List.set_cons_succ, i64_w, i32_w]
   rfl
  refine pure_ (i := 7) (N := some 14) (v := undef) (a' := ?_) #[true, true, true, true, true, true, true, true, false, false, false, false] rfl rfl (any_of HT_.out (by kernel_rfl)) (fun _ _ _ h => h) (Or.inr ⟨by rfl, rfl⟩) ?_ ?_
  rotate_left
  ·simp only [Act.put, List.setIfInBounds_toArray, List.set_cons_zero, List.set_cons_succ, i64_w, i32_w]
   rfl
  refine pure_ (i := 8) (N := some 15) (v := undef) (a' := ?_) #[true, true, true, true, true, true, true, true, true, false, false, false] rfl rfl (any_of HT_.out (by kernel_rfl)) (fun _ _ _ h => h) (Or.inr ⟨by rfl, rfl⟩) ?_ ?_
  rotate_left
  ·simp only [Act.put, List.setIfInBounds_toArray, List.set_cons_zero, List.set_cons_succ, i64_w, i32_w]
   rfl
  refine pure_ (i := 9) (N := some 16) (v := ?_) (a' := ?_) #[true, true, true, true, true, true, true, true, true, true, false, false] rfl rfl (any_of HT_.out (by kernel_rfl)) (fun _ _ _ h => h) (Or.inl ⟨by rfl, ?_⟩) ?_ ?_
  rotate_left
  ·intro w'
   go_simp
   with_reducible rfl
  rotate_left
  ·simp only [Act.put, List.setIfInBounds_toArray, List.set_cons_zero, List.set_cons_succ, i64_w, i32_w]
   rfl
  refine pure_ (i := 10) (N := some 17) (v := ?_) (a' := ?_) #[true, true, true, true, true, true, true, true, true, true, true, false] rfl rfl (any_of HT_.out (by kernel_rfl)) (fun _ _ _ h => h) (Or.inl ⟨by rfl, ?_⟩) ?_ ?_
  rotate_left
  ·intro w'
   go_simp
   with_reducible rfl
  rotate_left
  ·simp only [Act.put, List.setIfInBounds_toArray, List.set_cons_zero, List.set_cons_succ, i64_w, i32_w]
   rfl
  refine one_ (i := 11) (N := none) #[true, true, true, true, true, true, true, true, true, true, true, true] rfl rfl (one_of HT_.out (by kernel_rfl)) (by decide) (fun K hK => ?_)
  have hs17 : w16.cell? ⟨gb65002, 0, none⟩ = some (.int .i64 0) := (blk_cell BK65002.out 0).trans rfl
  have hfs17 := blk_frozen BK65002.out 0
  have hns17_0 := NB65001_65002.out
  have hms17_0 := NB65002_65001.out
  have hs18 : w16.cell? ⟨gb65002, 1, none⟩ = some (.int .i64 0) := (blk_cell BK65002.out 1).trans rfl
  have hfs18 := blk_frozen BK65002.out 1
  have hns18_0 := NB65001_65002.out
  have hms18_0 := NB65002_65001.out
  have hs19 : w16.cell? ⟨gb65002, 2, none⟩ = some (.bool false) := (blk_cell BK65002.out 2).trans rfl
  have hfs19 := blk_frozen BK65002.out 2
  have hns19_0 := NB65001_65002.out
  have hms19_0 := NB65002_65001.out
  refine skip_ (w1 := ?_) (by rfl) rfl ?_ ?_
  rotate_left
  ·go_simp
   rfl
  refine hK.out _ _ ⟨((cell_far (p := ⟨gb65002, _, none⟩) NB65001_65002.out _).trans (((cell_far (p := ⟨gb65002, _, none⟩) NB65001_65002.out _).trans (((cell_far (p := ⟨gb65002, _, none⟩) NB65001_65002.out _).trans (hHeld.1)))))), ((cell_far (p := ⟨gb65002, _, none⟩) NB65001_65002.out _).trans (((cell_far (p := ⟨gb65002, _, none⟩) NB65001_65002.out _).trans (((cell_far (p := ⟨gb65002, _, none⟩) NB65001_65002.out _).trans (hHeld.2.1)))))), ((cell_far (p := ⟨gb65002, _, none⟩) NB65001_65002.out _).trans (((cell_far (p := ⟨gb65002, _, none⟩) NB65001_65002.out _).trans (((cell_far (p := ⟨gb65002, _, none⟩) NB65001_65002.out _).trans (hHeld.2.2))))))⟩ (fun hHeld => ?_)
  clear hK K
  refine done_ (done_of HT_.out (by kernel_rfl)) ?_
  try go_wp2
  refine bodyPost_ret (results_cell_row rfl _ _ gb65002 32 #[.int .i64 t65003, .int .i64 a2, .bool false] (0, 0) _ rfl (by refine blk_put (cs := #[.int .i64 t65003, .int .i64 a2, .bool false]) ?_ 2 _ rfl; refine blk_put (cs := #[.int .i64 t65003, .int .i64 0, .bool false]) ?_ 1 _ rfl; refine blk_put (cs := #[.int .i64 0, .int .i64 0, .bool false]) ?_ 0 _ rfl; exact BK65002.out) Try.underlying32 rfl (by kernel_rfl)) rfl ?_
  exact ⟨by first | rfl | (simp [errW_none, errW_some] <;> rfl) | (simp [*, errW_none, errW_some] <;> rfl), by repeat (first | exact HB.out | apply below_alloc | apply pw_below_drewN | apply below_drew1 | refine below_set ?_ GE65001.out | refine below_set ?_ GE65002.out)⟩

end Go.Proofs.Ytcnkmdonbpgjiaa.G

namespace Go.Proofs.Ytcnkmdonbpgjiaa.G
open Go.RowKit Go.Proofs.YtcnkmdonbpgjiaaW.PrintWords Go.Proofs.YtcnkmdonbpgjiaaW.PrintLast Go.Proofs.YtcnkmdonbpgjiaaW.PrintMore
attribute [local go_sem] max2_int min2_int max_two min_two max_three min_three max_four min_four   -- for this text's walks alone
set_option linter.unusedVariables false
set_option linter.unusedSimpArgs false

mutual
def papermillref13_more.l0 : Nat → List (S32) → Int → Int → Bool → Option ((List (S32)))
 | 0, _, _, _, _ => none
 | k + 1, x5, x53002000, x53002001, x53002002 => if x53002001 > 0 then (if (wrap64 ((x5.length : Int) - 1)) < 0 then ((papermillref13_cut.f x53002000 x53002001 x53002002 0 x53002001).bind fun bt53008 => (if x5.length < 5864062014805 then (some (x5 ++ [(⟨bt53008.1, bt53008.2.1, bt53008.2.2⟩ : S32)])) else (none))) else (if 0 ≤ (wrap64 ((x5.length : Int) - 1)) then (if (wrap64 ((x5.length : Int) - 1)) < (x5.length : Int) then ((papermillref13_image.f ((rd_T32 x5 (wrap64 ((x5.length : Int) - 1))).f0) ((rd_T32 x5 (wrap64 ((x5.length : Int) - 1))).f1) ((rd_T32 x5 (wrap64 ((x5.length : Int) - 1))).f2) (wrap64 (((rd_T32 x5 (wrap64 ((x5.length : Int) - 1))).f1) - 1))).bind fun t53016 => (if (wrap64 (x53002000 - t53016)) = 1 then (if ((rd_T32 x5 (wrap64 ((x5.length : Int) - 1))).f1) > 1 then (papermillref13_more.j1 k x5 (wrap64 ((x5.length : Int) - 1)) (wrap64 (x53002000 - t53016)) (((rd_T32 x5 (wrap64 ((x5.length : Int) - 1))).f2) != ((wrap64 (x53002000 - t53016)) == (-1))) x53002000 x53002001 x53002002 ((rd_T32 x5 (wrap64 ((x5.length : Int) - 1))).f0) ((rd_T32 x5 (wrap64 ((x5.length : Int) - 1))).f1) ((rd_T32 x5 (wrap64 ((x5.length : Int) - 1))).f2)) else (papermillref13_more.j1 k x5 (wrap64 ((x5.length : Int) - 1)) (wrap64 (x53002000 - t53016)) false x53002000 x53002001 x53002002 ((rd_T32 x5 (wrap64 ((x5.length : Int) - 1))).f0) ((rd_T32 x5 (wrap64 ((x5.length : Int) - 1))).f1) ((rd_T32 x5 (wrap64 ((x5.length : Int) - 1))).f2))) else (if (wrap64 (x53002000 - t53016)) = (-1) then (if ((rd_T32 x5 (wrap64 ((x5.length : Int) - 1))).f1) > 1 then (papermillref13_more.j1 k x5 (wrap64 ((x5.length : Int) - 1)) (wrap64 (x53002000 - t53016)) (((rd_T32 x5 (wrap64 ((x5.length : Int) - 1))).f2) != ((wrap64 (x53002000 - t53016)) == (-1))) x53002000 x53002001 x53002002 ((rd_T32 x5 (wrap64 ((x5.length : Int) - 1))).f0) ((rd_T32 x5 (wrap64 ((x5.length : Int) - 1))).f1) ((rd_T32 x5 (wrap64 ((x5.length : Int) - 1))).f2)) else (papermillref13_more.j1 k x5 (wrap64 ((x5.length : Int) - 1)) (wrap64 (x53002000 - t53016)) false x53002000 x53002001 x53002002 ((rd_T32 x5 (wrap64 ((x5.length : Int) - 1))).f0) ((rd_T32 x5 (wrap64 ((x5.length : Int) - 1))).f1) ((rd_T32 x5 (wrap64 ((x5.length : Int) - 1))).f2))) else (papermillref13_more.j1 k x5 (wrap64 ((x5.length : Int) - 1)) (wrap64 (x53002000 - t53016)) true x53002000 x53002001 x53002002 ((rd_T32 x5 (wrap64 ((x5.length : Int) - 1))).f0) ((rd_T32 x5 (wrap64 ((x5.length : Int) - 1))).f1) ((rd_T32 x5 (wrap64 ((x5.length : Int) - 1))).f2))))) else (none)) else (none))) else (some x5)
def papermillref13_more.j1 : Nat → List (S32) → Int → Int → Bool → Int → Int → Bool → Int → Int → Bool → Option ((List (S32)))
 | 0, _, _, _, _, _, _, _, _, _, _ => none
 | k + 1, x5, x6, x8, x57, x53002000, x53002001, x53002002, x53016000, x53016001, x53016002 => if x57 = true then ((papermillref13_cut.f x53002000 x53002001 x53002002 0 x53002001).bind fun bt53017 => (if x5.length < 5864062014805 then (some (x5 ++ [(⟨bt53017.1, bt53017.2.1, bt53017.2.2⟩ : S32)])) else (none))) else (if x53002001 > 1 then (papermillref13_more.j2 k x5 x6 x8 x53002001 (x53002002 != (x8 == (-1))) x53002000 x53002001 x53002002 x53016000 x53016001 x53016002) else (papermillref13_more.j2 k x5 x6 x8 x53002001 false x53002000 x53002001 x53002002 x53016000 x53016001 x53016002))
def papermillref13_more.j2 : Nat → List (S32) → Int → Int → Int → Bool → Int → Int → Bool → Int → Int → Bool → Option ((List (S32)))
 | 0, _, _, _, _, _, _, _, _, _, _, _ => none
 | k + 1, x5, x6, x8, x9, x75, x53002000, x53002001, x53002002, x53016000, x53016001, x53016002 => if x75 = true then (if 0 ≤ x6 then (if x6 < (x5.length : Int) then ((some (x5.set (x6 : Int).toNat (⟨x53016000, wrap64 (x53016001 + 1), (x8 == (-1))⟩ : S32) : List (S32))).bind fun y53023 => (if 1 = x53002001 then (some y53023) else ((papermillref13_cut.f x53002000 x53002001 x53002002 1 (wrap64 (x53002001 - 1))).bind fun bt53024 => (papermillref13_more.l0 k y53023 bt53024.1 bt53024.2.1 bt53024.2.2)))) else (none)) else (none)) else (if 0 ≤ x6 then (if x6 < (x5.length : Int) then ((some (x5.set (x6 : Int).toNat (⟨x53016000, wrap64 (x53016001 + x9), (x8 == (-1))⟩ : S32) : List (S32))).bind fun y53027 => (if x9 = x53002001 then (some y53027) else ((papermillref13_cut.f x53002000 x53002001 x53002002 x9 (wrap64 (x53002001 - x9))).bind fun bt53028 => (papermillref13_more.l0 k y53027 bt53028.1 bt53028.2.1 bt53028.2.2)))) else (none)) else (none))
end
def papermillref13_more.f (k : Nat) (l0 : List (S32)) (a1_0 : Int) (a1_1 : Int) (a1_2 : Bool) : Option ((List (S32))) := (some (([] : List (S32)) : List (S32))).bind fun y53002 => (if y53002.length + l0.length < 5864062014805 then (papermillref13_more.l0 k (y53002 ++ l0) a1_0 a1_1 a1_2) else (none))
theorem papermillref13_more.mono_l : ∀ k, (∀ y0 y1 y2 y3, LeO (papermillref13_more.l0 k y0 y1 y2 y3) (papermillref13_more.l0 (k + 1) y0 y1 y2 y3)) ∧ (∀ y0 y1 y2 y3 y4 y5 y6 y7 y8 y9, LeO (papermillref13_more.j1 k y0 y1 y2 y3 y4 y5 y6 y7 y8 y9) (papermillref13_more.j1 (k + 1) y0 y1 y2 y3 y4 y5 y6 y7 y8 y9)) ∧ (∀ y0 y1 y2 y3 y4 y5 y6 y7 y8 y9 y10, LeO (papermillref13_more.j2 k y0 y1 y2 y3 y4 y5 y6 y7 y8 y9 y10) (papermillref13_more.j2 (k + 1) y0 y1 y2 y3 y4 y5 y6 y7 y8 y9 y10))
 | 0 => ⟨fun _ _ _ _ r h => by simp [papermillref13_more.l0] at h, fun _ _ _ _ _ _ _ _ _ _ r h => by simp [papermillref13_more.j1] at h, fun _ _ _ _ _ _ _ _ _ _ _ r h => by simp [papermillref13_more.j2] at h⟩
 | k + 1 => by
  obtain ⟨ih0, ih1, ih2⟩ := papermillref13_more.mono_l k
  refine ⟨?_, ?_, ?_⟩
  ·intro y0 y1 y2 y3
   unfold papermillref13_more.l0
   repeat' first
   | (with_reducible exact ih0 _ _ _ _)
   | (with_reducible exact ih1 _ _ _ _ _ _ _ _ _ _)
   | (with_reducible exact ih2 _ _ _ _ _ _ _ _ _ _ _)
   | (with_reducible exact LeO.refl _)
   | (with_reducible exact LeO.none _)
   | (with_reducible refine LeO.ite ?_ ?_)
   | (with_reducible refine LeO.bind ?_ (fun _ => ?_))
   | exact ih0 _ _ _ _
   | exact ih1 _ _ _ _ _ _ _ _ _ _
   | exact ih2 _ _ _ _ _ _ _ _ _ _ _
   | exact LeO.none _
   | refine LeO.ite ?_ ?_
   | refine LeO.bind ?_ (fun _ => ?_)
  ·intro y0 y1 y2 y3 y4 y5 y6 y7 y8 y9
   unfold papermillref13_more.j1
   repeat' first
   | (with_reducible exact ih0 _ _ _ _)
   | (with_reducible exact ih1 _ _ _ _ _ _ _ _ _ _)
   | (with_reducible exact ih2 _ _ _ _ _ _ _ _ _ _ _)
   | (with_reducible exact LeO.refl _)
   | (with_reducible exact LeO.none _)
   | (with_reducible refine LeO.ite ?_ ?_)
   | (with_reducible refine LeO.bind ?_ (fun _ => ?_))
   | exact ih0 _ _ _ _
   | exact ih1 _ _ _ _ _ _ _ _ _ _
   | exact ih2 _ _ _ _ _ _ _ _ _ _ _
   | exact LeO.none _
   | refine LeO.ite ?_ ?_
   | refine LeO.bind ?_ (fun _ => ?_)
  ·intro y0 y1 y2 y3 y4 y5 y6 y7 y8 y9 y10
   unfold papermillref13_more.j2
   repeat' first
   | (with_reducible exact ih0 _ _ _ _)
   | (with_reducible exact ih1 _ _ _ _ _ _ _ _ _ _)
   | (with_reducible exact ih2 _ _ _ _ _ _ _ _ _ _ _)
   | (with_reducible exact LeO.refl _)
   | (with_reducible exact LeO.none _)
   | (with_reducible refine LeO.ite ?_ ?_)
   | (with_reducible refine LeO.bind ?_ (fun _ => ?_))
   | exact ih0 _ _ _ _
   | exact ih1 _ _ _ _ _ _ _ _ _ _
   | exact ih2 _ _ _ _ _ _ _ _ _ _ _
   | exact LeO.none _
   | refine LeO.ite ?_ ?_
   | refine LeO.bind ?_ (fun _ => ?_)
theorem papermillref13_more.mono : ∀ a0 a1 a2 a3 k, LeO (papermillref13_more.f k a0 a1 a2 a3) (papermillref13_more.f (k + 1) a0 a1 a2 a3) := by
 intro a0 a1 a2 a3 k
 obtain ⟨ih0, ih1, ih2⟩ := papermillref13_more.mono_l k
 unfold papermillref13_more.f
 repeat' first
   | (with_reducible exact ih0 _ _ _ _)
   | (with_reducible exact ih1 _ _ _ _ _ _ _ _ _ _)
   | (with_reducible exact ih2 _ _ _ _ _ _ _ _ _ _ _)
   | (with_reducible exact LeO.refl _)
   | (with_reducible exact LeO.none _)
   | (with_reducible refine LeO.ite ?_ ?_)
   | (with_reducible refine LeO.bind ?_ (fun _ => ?_))
   | exact ih0 _ _ _ _
   | exact ih1 _ _ _ _ _ _ _ _ _ _
   | exact ih2 _ _ _ _ _ _ _ _ _ _ _
   | exact LeO.none _
   | refine LeO.ite ?_ ?_
   | refine LeO.bind ?_ (fun _ => ?_)
def papermillref13_more.T7 : Bool × List (List Nat × List Nat) := (true, [([], []), ([0], [0]), ([], []), ([], []), ([3], [3]), ([4], [4]), ([2, 5], [2, 5]), ([1, 6], [1, 6]), ([7, 6, 0, 1, 2, 3, 4, 5, 6, 7], [7])])
def papermillref13_more.B7 : List Nat := [0, 1, 0, 0, 8, 24, 60, 127, 255]
theorem papermillref13_more.tab7 : rtab .any (opsOf Try.f52 7) = papermillref13_more.T7 := by kernel_rfl
theorem papermillref13_more.bits7 : waitsOk papermillref13_more.T7.2 papermillref13_more.B7 = true := by kernel_rfl
set_option maxHeartbeats 8000000 in
set_option maxRecDepth 100000 in
theorem papermillref13_more.calls (k : Nat) (A0 : Option Addr) (c0 : Nat) (l0 : List (S32)) (a1_0 : Int) (a1_1 : Int) (a1_2 : Bool) (r : List (S32)) (w : World) (hr0 : Kd.C k32 w A0 l0.length l0) (hc0 : l0.length ≤ c0) (h : papermillref13_more.f k l0 a1_0 a1_1 a1_2 = some r) :
  Calls Try.prog 52 #[.slice A0 l0.length c0, .agg #[.int .i64 a1_0, .int .i64 a1_1, .bool a1_2]] w fun e w' => ∃ v0_ : Value, e = .returned (v0_) ∧ Kd.R k32 32 w' w.heap.size (fun _ => True) v0_ r ∧ Below w.heap.size w w' := by
 have hu32 := Try.underlying32
 have HR0 := Aside0.mk hr0
 have HC0 := Aside0.mk hc0
 clear hr0 hc0
 have HB := Aside0.mk (Below.refl w.heap.size w)
 have H : ((some (([] : List (S32)) : List (S32))).bind fun y53002 => (if y53002.length + l0.length < 5864062014805 then (papermillref13_more.l0 k (y53002 ++ l0) a1_0 a1_1 a1_2) else (none))) = some r := h
 clear h
 obtain ⟨y53002, hy53002⟩ : ∃ y_ : List (S32), y_ = (([] : List (S32))) := ⟨_, rfl⟩
 replace H : (if y53002.length + l0.length < 5864062014805 then (papermillref13_more.l0 k (y53002 ++ l0) a1_0 a1_1 a1_2) else (none)) = some r := by first | (rw [hy53002]; with_reducible exact H) | (have H2_ := (Option.bind_some _ _).symm.trans H; rw [hy53002]; with_reducible exact H2_) | (have H2_ := (Option.bind_some _ _).symm.trans H; with_reducible exact H2_) | with_reducible exact H | (rw [hy53002]; exact H) | exact H
 have Ny53002 := Aside0.mk hy53002
 clear hy53002
 by_cases c3 : y53002.length + l0.length < 5864062014805
 ·rw [if_pos c3] at H
  have LMc3 := Aside0.mk c3
  clear c3
  obtain ⟨y53005, hy53005⟩ : ∃ y_ : List (S32), y_ = (y53002 ++ l0) := ⟨_, rfl⟩
  replace H : (papermillref13_more.l0 k y53005 a1_0 a1_1 a1_2) = some r := by first | (rw [hy53005]; with_reducible exact H) | (have H2_ := (Option.bind_some _ _).symm.trans H; rw [hy53005]; with_reducible exact H2_) | (have H2_ := (Option.bind_some _ _).symm.trans H; with_reducible exact H2_) | with_reducible exact H | (rw [hy53005]; exact H) | exact H
  have Ny53005 := Aside0.mk hy53005
  clear hy53005
  have H' := Aside0.mk H
  clear H
  go_enter Try.func52, Try.ntmps52
  go_wp2_with (first | ((with_reducible refine gate_dst (N := 3) rfl ?_); refine box_event ?hg (N := 3) ?hd (cs := #[.int .i64 a1_0, .int .i64 a1_1, .bool a1_2]) (t := 32) ?hr ?_; (case hd => rfl); (case hg => rfl); (case hr => first | (go_simp; done) | (go_simp; rfl)); intro gb53001 hg w4 hbox hb; have n0_ := Aside0.mk (below_step (by repeat (first | exact HB.out | apply below_alloc | apply pw_below_drewN | apply below_drew1)) hb); have n1_ := Aside0.mk (hbox); have n2_ := Aside0.mk ((by rw [hg]; exact (below_size (by repeat (first | exact HB.out | apply below_alloc | apply pw_below_drewN | apply below_drew1))) : w.heap.size ≤ gb53001)); have n3_ := Aside0.mk ((by rw [hg]; exact (below_size (by repeat (first | exact HB.out | apply below_alloc | apply pw_below_drewN | apply below_drew1))) : w.heap.size ≤ gb53001)); clear HB; have HB := n0_; have BK53001 := n1_; have GW53001 := n2_; have GE53001 := n3_; clear n0_ n1_ n2_ n3_; clear hb hbox hg) | ((with_reducible refine gate_dst (N := 10) rfl ?_); refine Kd.R_lit k32 _ 32 ?hg (N := 10) ?hd (xs := ([] : List (S32))) (inner := []) (ok := fun _ => True) (okp := fun _ => True) ?hr ?hp (fun _ hk => hk) trivial (Below.refl _ _) (Nat.le_refl _) (by simp) ?_; (case hd => rfl); (case hg => rfl); (case hr => first | (go_simp; done) | (go_simp; rfl)); (case hp => exact (Reps.none _ _)); intro v53003 w5 ho6 hb hg_ hnew_; clear hg_ hnew_; (first | rw [← Ny53002.out] at ho6 | (simp only [Int.reduceToNat] at ho6; rw [← Ny53002.out] at ho6)); have n0_ := Aside0.mk (Kd.R_lower (Kd.R_newB ho6 (g := gb53001) (o := .cells #[.int .i64 a1_0, .int .i64 a1_1, .bool a1_2] 32 (0, 0)) (BK53001.out)) (below_size (by repeat (first | exact HB.out | apply below_alloc | apply pw_below_drewN | apply below_drew1 | refine below_set ?_ GE53001.out)))); have n1_ := Aside0.mk (blk_below (g := gb53001) (o := .cells #[.int .i64 a1_0, .int .i64 a1_1, .bool a1_2] 32 (0, 0)) (BK53001.out) hb); have n2_ := Aside0.mk (below_step (by repeat (first | exact HB.out | apply below_alloc | apply pw_below_drewN | apply below_drew1 | refine below_set ?_ GE53001.out)) hb); clear BK53001; clear HB; have HO53004 := n0_; have BK53001 := n1_; have HB := n2_; clear n0_ n1_ n2_; clear hb ho6) | ((with_reducible refine gate_builtin (b := .append) (xs := #[.tmp 10, .tmp 11]) rfl ?_); at_builtin; refine Kd.R_append_rows k32 (w0 := w) w.heap.size rfl (.tmp 10) (.tmp 11) 22 32 (.agg #[(.int .i64 0), (.int .i64 0), (.bool false)]) 24 rfl Try.underlying22 info32 rfl (by decide) (by omega) v53003 y53002 l0 _ _ _ (fun k_ => k_ ≠ gb53001) (fun _ => False) rfl rfl ?aO ?aR (fun _ _ h => h) (fun _ h => h.elim) ?aF ?aB ?aS ?aL ?_; (case aR => exact (Kd.C_below HR0.out HB.out)); (case aB => exact (by repeat (first | exact HB.out | apply below_alloc | apply pw_below_drewN | apply below_drew1 | refine below_set ?_ GE53001.out))); (case aF => exact (fun k_ hk => Kd.freshB (g := gb53001) (o := .cells #[.int .i64 a1_0, .int .i64 a1_1, .bool a1_2] 32 (0, 0)) (BK53001.out) k_ hk)); (case aO => exact (by exact Kd.R_mono HO53004.out (fun _ hk => hk.2))); (case aS => exact (below_size (by repeat (first | exact HB.out | apply below_alloc | apply pw_below_drewN | apply below_drew1 | refine below_set ?_ GE53001.out)))); (case aL => have := LMc3.out; omega); intro v53006 w7 ho hb hg hat; rw [← Ny53005.out] at ho; have n0_ := Aside0.mk (blk_grown (g := gb53001) (o := .cells #[.int .i64 a1_0, .int .i64 a1_1, .bool a1_2] 32 (0, 0)) (BK53001.out) hg (Kd.R_away HO53004.out (fun _ hk => hk.2))); have n1_ := Aside0.mk (hb); have n2_ := Aside0.mk (ho); clear BK53001; clear HB; clear HO53004; have BK53001 := n0_; have HB := n1_; have HO53007 := n2_; clear n0_ n1_ n2_; clear ho hb hg hat))
  go_loopg [] k (fun kq w' => ∃ (x5_1 : List (S32)) (x53002000_1 : Int) (x53002001_1 : Int) (x53002002_1 : Bool), Aside0 (papermillref13_more.l0 kq x5_1 x53002000_1 x53002001_1 x53002002_1 = some r) ∧ Aside0 (kq ≤ k) ∧ Aside0 (Kd.R k32 32 w' w.heap.size (fun k_ => k_ ≠ gb53001) v53006 x5_1) ∧ Aside0 (w'.heap[gb53001]? = some (.cells #[.int .i64 x53002000_1, .int .i64 x53002001_1, .bool x53002002_1] 32 (0, 0))) ∧ Aside0 (Below w.heap.size w w'))
  case atStart => exact ⟨(y53005), (a1_0), (a1_1), (a1_2), H', ⟨Nat.le_refl _⟩, ⟨HO53007.out⟩, ⟨BK53001.out⟩, ⟨by repeat (first | exact HB.out | apply below_alloc | apply pw_below_drewN | apply below_drew1 | refine below_set ?_ GE53001.out)⟩⟩
  case round =>
   clear H'
   try clear p2
   try clear c3
   try clear c5
   obtain ⟨x5_1, x53002000_1, x53002001_1, x53002002_1, HA, HK1, HO_5, BK53001, HB⟩ := hrel
   cases gk with
   | zero => exact absurd HA.out (by simp [papermillref13_more.l0])
   | succ k1 =>
    have H := HA.out
    clear HA
    simp only [papermillref13_more.l0] at H
    by_cases c8 : x53002001_1 > 0
    ·rw [if_pos c8] at H
     have c8b0 : decide (0 < x53002001_1) = true := decide_eq_true c8
     clear c8
     by_cases c9 : (wrap64 ((x5_1.length : Int) - 1)) < 0
     ·rw [if_pos c9] at H
      have c9b0 : decide ((wrap64 ((x5_1.length : Int) - 1)) < 0) = true := decide_eq_true c9
      clear c9
      replace H := Option.bind_eq_some_iff.mp H
      obtain ⟨⟨t53008, t53009, t53010⟩, A100, H⟩ := H
      replace H : (if x5_1.length < 5864062014805 then (some (x5_1 ++ [(⟨t53008, t53009, t53010⟩ : S32)])) else (none)) = some r := H
      have A10 := Aside0.mk A100
      clear A100
      by_cases c11 : x5_1.length < 5864062014805
      ·rw [if_pos c11] at H
       have LMc11 := Aside0.mk c11
       clear c11
       obtain ⟨y53011, hy53011⟩ : ∃ y_ : List (S32), y_ = (x5_1 ++ [(⟨t53008, t53009, t53010⟩ : S32)]) := ⟨_, rfl⟩
       replace H : (some y53011) = some r := by first | (rw [hy53011]; with_reducible exact H) | (have H2_ := (Option.bind_some _ _).symm.trans H; rw [hy53011]; with_reducible exact H2_) | (have H2_ := (Option.bind_some _ _).symm.trans H; with_reducible exact H2_) | with_reducible exact H | (rw [hy53011]; exact H) | exact H
       have Ny53011 := Aside0.mk hy53011
       clear hy53011
       obtain rfl := Option.some.inj H
       have hcz12_0 : wr.cell? ⟨gb53001, 0, none⟩ = some (.int .i64 x53002000_1) := (blk_cell BK53001.out 0).trans rfl
       have hcz12_1 : wr.cell? ⟨gb53001, 1, none⟩ = some (.int .i64 x53002001_1) := (blk_cell BK53001.out 1).trans rfl
       have hcz12_2 : wr.cell? ⟨gb53001, 2, none⟩ = some (.bool x53002002_1) := (blk_cell BK53001.out 2).trans rfl
       have hfz12_0 := blk_frozen BK53001.out 0
       have hfz12_1 := blk_frozen BK53001.out 1
       have hfz12_2 := blk_frozen BK53001.out 2
       obtain ⟨Ao13, co13, eo13⟩ := Kd.R_slice HO_5.out
       subst eo13
       go_wp2_with (first | ((with_reducible refine gate_callee (f := 64) rfl ?_); refine goesL_ (some 25) rfl rfl Try.func64 (by kernel_rfl) rfl #[.agg #[.int .i64 x53002000_1, .int .i64 x53002001_1, .bool x53002002_1], .int .i64 0, .int .i64 x53002001_1] rfl (by (try simp only [List.map_toArray, List.map_cons, List.map_nil]); first | done | rfl | (simp only [List.length_drop, List.length_take]; rfl)) ?_; (with_reducible refine (papermillref13_cut.calls x53002000_1 x53002001_1 x53002002_1 0 x53002001_1 t53008 t53009 t53010 _ A10.out).mono ?_); rintro e w14 ⟨rfl, hb⟩; refine ⟨_, rfl, ?_⟩; have n0_ := Aside0.mk (Kd.R_below (HO_5.out) hb); have n1_ := Aside0.mk (blk_below (g := gb53001) (o := .cells #[.int .i64 x53002000_1, .int .i64 x53002001_1, .bool x53002002_1] 32 (0, 0)) (BK53001.out) hb); have n2_ := Aside0.mk (below_step (by repeat (first | exact HB.out | apply below_alloc | apply pw_below_drewN | apply below_drew1 | refine below_set ?_ GE53001.out)) hb); clear HO_5; clear BK53001; clear HB; have HO_5 := n0_; have BK53001 := n1_; have HB := n2_; clear n0_ n1_ n2_; (try clear hb); (try clear hb2); (try clear hk); (try clear hi)) | ((with_reducible refine gate_builtin (b := .append) (xs := #[.tmp 21, .tmp 26]) rfl ?_); at_builtin; refine Kd.R_append k32 (w0 := w) w.heap.size rfl (.tmp 21) (.tmp 26) 22 32 (.agg #[(.int .i64 0), (.int .i64 0), (.bool false)]) 24 rfl Try.underlying22 info32 rfl (by decide) (by omega) (.slice Ao13 x5_1.length co13) x5_1 (⟨t53008, t53009, t53010⟩ : S32) [.int .i64 t53008, .int .i64 t53009, .bool t53010] (fun k_ => k_ ≠ gb53001) (fun _ => False) rfl rfl ?aP (fun _ hk => hk.elim) ?aF ?aO ?aB ?aS ?aL ?_; (case aP => exact k32_mkM _ _ _ (⟨t53008, t53009, t53010⟩ : S32)); (case aB => exact (by repeat (first | exact HB.out | apply below_alloc | apply pw_below_drewN | apply below_drew1 | refine below_set ?_ GE53001.out))); (case aF => exact (fun k_ hk => Kd.freshB (g := gb53001) (o := .cells #[.int .i64 x53002000_1, .int .i64 x53002001_1, .bool x53002002_1] 32 (0, 0)) (BK53001.out) k_ hk)); (case aO => exact (HO_5.out)); (case aS => exact (below_size (by repeat (first | exact HB.out | apply below_alloc | apply pw_below_drewN | apply below_drew1 | refine below_set ?_ GE53001.out)))); (case aL => have := LMc11.out; omega); intro v53012 w15 ho hb hg hat; rw [← Ny53011.out] at ho; have n0_ := Aside0.mk (blk_grown (g := gb53001) (o := .cells #[.int .i64 x53002000_1, .int .i64 x53002001_1, .bool x53002002_1] 32 (0, 0)) (BK53001.out) hg (Kd.R_away HO_5.out (fun _ hk => hk))); have n1_ := Aside0.mk (hb); have n2_ := Aside0.mk (ho); clear BK53001; clear HB; clear HO_5; have BK53001 := n0_; have HB := n1_; have HO53013 := n2_; clear n0_ n1_ n2_; clear ho hb hg hat))
       go_ret
       exact ⟨_, by first | rfl | (simp [errW_none, errW_some] <;> rfl) | (simp [*, errW_none, errW_some] <;> rfl), by exact Kd.R_mono HO53013.out (fun _ hk => trivial), by repeat (first | exact HB.out | apply below_alloc | apply pw_below_drewN | apply below_drew1 | refine below_set ?_ GE53001.out)⟩
      ·rw [if_neg c11] at H
       exact absurd H (by simp)
     ·rw [if_neg c9] at H
      have c9b0 : decide ((wrap64 ((x5_1.length : Int) - 1)) < 0) = false := decide_eq_false c9
      clear c9
      obtain ⟨ji16, hji16⟩ : ∃ j_ : Int, (wrap64 ((x5_1.length : Int) - 1)) = j_ := ⟨_, rfl⟩
      replace H : (if 0 ≤ (ji16) then (if (ji16) < (x5_1.length : Int) then ((papermillref13_image.f ((rd_T32 x5_1 (ji16)).f0) ((rd_T32 x5_1 (ji16)).f1) ((rd_T32 x5_1 (ji16)).f2) (wrap64 (((rd_T32 x5_1 (ji16)).f1) - 1))).bind fun t53016 => (if (wrap64 (x53002000_1 - t53016)) = 1 then (if ((rd_T32 x5_1 (ji16)).f1) > 1 then (papermillref13_more.j1 k1 x5_1 ji16 (wrap64 (x53002000_1 - t53016)) (((rd_T32 x5_1 (ji16)).f2) != ((wrap64 (x53002000_1 - t53016)) == (-1))) x53002000_1 x53002001_1 x53002002_1 ((rd_T32 x5_1 (ji16)).f0) ((rd_T32 x5_1 (ji16)).f1) ((rd_T32 x5_1 (ji16)).f2)) else (papermillref13_more.j1 k1 x5_1 ji16 (wrap64 (x53002000_1 - t53016)) false x53002000_1 x53002001_1 x53002002_1 ((rd_T32 x5_1 (ji16)).f0) ((rd_T32 x5_1 (ji16)).f1) ((rd_T32 x5_1 (ji16)).f2))) else (if (wrap64 (x53002000_1 - t53016)) = (-1) then (if ((rd_T32 x5_1 (ji16)).f1) > 1 then (papermillref13_more.j1 k1 x5_1 ji16 (wrap64 (x53002000_1 - t53016)) (((rd_T32 x5_1 (ji16)).f2) != ((wrap64 (x53002000_1 - t53016)) == (-1))) x53002000_1 x53002001_1 x53002002_1 ((rd_T32 x5_1 (ji16)).f0) ((rd_T32 x5_1 (ji16)).f1) ((rd_T32 x5_1 (ji16)).f2)) else (papermillref13_more.j1 k1 x5_1 ji16 (wrap64 (x53002000_1 - t53016)) false x53002000_1 x53002001_1 x53002002_1 ((rd_T32 x5_1 (ji16)).f0) ((rd_T32 x5_1 (ji16)).f1) ((rd_T32 x5_1 (ji16)).f2))) else (papermillref13_more.j1 k1 x5_1 ji16 (wrap64 (x53002000_1 - t53016)) true x53002000_1 x53002001_1 x53002002_1 ((rd_T32 x5_1 (ji16)).f0) ((rd_T32 x5_1 (ji16)).f1) ((rd_T32 x5_1 (ji16)).f2))))) else (none)) else (none)) = some r := by first | (rw [hji16] at H; exact H) | (simp only [hji16] at H ⊢; exact H)
      (try rw [hji16] at c9b0)
      have hji16w : (IntKind.i64.wrap ((x5_1.length : Int) - 1)) = ji16 := (i64_w _).trans hji16
      by_cases c17 : 0 ≤ (ji16)
      ·rw [if_pos c17] at H
       have c17b0 : decide (0 ≤ (ji16)) = true := decide_eq_true c17
       clear c17
       by_cases c18 : (ji16) < (x5_1.length : Int)
       ·rw [if_pos c18] at H
        have c18b0 : decide ((ji16) < (x5_1.length : Int)) = true := decide_eq_true c18
        clear c18
        replace H := Option.bind_eq_some_iff.mp H
        obtain ⟨t53016, A190, H⟩ := H
        replace H : (if (wrap64 (x53002000_1 - t53016)) = 1 then (if ((rd_T32 x5_1 (ji16)).f1) > 1 then (papermillref13_more.j1 k1 x5_1 ji16 (wrap64 (x53002000_1 - t53016)) (((rd_T32 x5_1 (ji16)).f2) != ((wrap64 (x53002000_1 - t53016)) == (-1))) x53002000_1 x53002001_1 x53002002_1 ((rd_T32 x5_1 (ji16)).f0) ((rd_T32 x5_1 (ji16)).f1) ((rd_T32 x5_1 (ji16)).f2)) else (papermillref13_more.j1 k1 x5_1 ji16 (wrap64 (x53002000_1 - t53016)) false x53002000_1 x53002001_1 x53002002_1 ((rd_T32 x5_1 (ji16)).f0) ((rd_T32 x5_1 (ji16)).f1) ((rd_T32 x5_1 (ji16)).f2))) else (if (wrap64 (x53002000_1 - t53016)) = (-1) then (if ((rd_T32 x5_1 (ji16)).f1) > 1 then (papermillref13_more.j1 k1 x5_1 ji16 (wrap64 (x53002000_1 - t53016)) (((rd_T32 x5_1 (ji16)).f2) != ((wrap64 (x53002000_1 - t53016)) == (-1))) x53002000_1 x53002001_1 x53002002_1 ((rd_T32 x5_1 (ji16)).f0) ((rd_T32 x5_1 (ji16)).f1) ((rd_T32 x5_1 (ji16)).f2)) else (papermillref13_more.j1 k1 x5_1 ji16 (wrap64 (x53002000_1 - t53016)) false x53002000_1 x53002001_1 x53002002_1 ((rd_T32 x5_1 (ji16)).f0) ((rd_T32 x5_1 (ji16)).f1) ((rd_T32 x5_1 (ji16)).f2))) else (papermillref13_more.j1 k1 x5_1 ji16 (wrap64 (x53002000_1 - t53016)) true x53002000_1 x53002001_1 x53002002_1 ((rd_T32 x5_1 (ji16)).f0) ((rd_T32 x5_1 (ji16)).f1) ((rd_T32 x5_1 (ji16)).f2)))) = some r := H
        have A19 := Aside0.mk A190
        clear A190
        have HC20 := Aside0.mk H
        clear H
        have hcz21_0 : wr.cell? ⟨gb53001, 0, none⟩ = some (.int .i64 x53002000_1) := (blk_cell BK53001.out 0).trans rfl
        have hcz21_1 : wr.cell? ⟨gb53001, 1, none⟩ = some (.int .i64 x53002001_1) := (blk_cell BK53001.out 1).trans rfl
        have hcz21_2 : wr.cell? ⟨gb53001, 2, none⟩ = some (.bool x53002002_1) := (blk_cell BK53001.out 2).trans rfl
        have hfz21_0 := blk_frozen BK53001.out 0
        have hfz21_1 := blk_frozen BK53001.out 1
        have hfz21_2 := blk_frozen BK53001.out 2
        obtain ⟨Ao22, co22, eo22⟩ := Kd.R_slice HO_5.out
        subst eo22
        have p53014 : 0 ≤ ((ji16) : Int) := of_decide_eq_true (by assumption)
        have q53014 : (ji16) < (x5_1.length : Int) := of_decide_eq_true (by assumption)
        obtain ⟨ad53014, e53014, hx53014_0, hx53014_1, hx53014_2⟩ := at_T32 (Kd.R_reads' HO_5.out).2.2 (ji16) p53014 q53014
        cases e53014
        replace p53014 := eq_true p53014
        replace q53014 := eq_true q53014
        try go_wp2_with (first | ((with_reducible refine gate_dst (N := 7) rfl ?_); refine box_event ?hg (N := 7) ?hd (cs := #[.int .i64 0, .int .i64 0, .bool false]) (t := 32) ?hr ?_; (case hd => rfl); (case hg => rfl); (case hr => first | (go_simp; done) | (go_simp; rfl)); intro gb53015 hg w23 hbox hb; have n0_ := Aside0.mk (Kd.R_below (Kd.R_elderB (HO_5.out) gb53015 (Nat.le_of_eq hg.symm)) hb); have n1_ := Aside0.mk (blk_below (g := gb53001) (o := .cells #[.int .i64 x53002000_1, .int .i64 x53002001_1, .bool x53002002_1] 32 (0, 0)) (BK53001.out) hb); have n2_ := Aside0.mk (below_step (by repeat (first | exact HB.out | apply below_alloc | apply pw_below_drewN | apply below_drew1 | refine below_set ?_ GE53001.out)) hb); have n3_ := Aside0.mk (hbox); have n4_ := Aside0.mk ((by rw [hg]; exact (below_size (by repeat (first | exact HB.out | apply below_alloc | apply pw_below_drewN | apply below_drew1 | refine below_set ?_ GE53001.out))) : w.heap.size ≤ gb53015)); have n5_ := Aside0.mk ((by rw [hg]; exact (below_size (by repeat (first | exact HB.out | apply below_alloc | apply pw_below_drewN | apply below_drew1 | refine below_set ?_ GE53001.out))) : w.heap.size ≤ gb53015)); have n6_ := Aside0.mk ((by rw [hg]; exact Nat.ne_of_lt (blk_lt (g := gb53001) (o := .cells #[.int .i64 x53002000_1, .int .i64 x53002001_1, .bool x53002002_1] 32 (0, 0)) (BK53001.out)) : gb53001 ≠ gb53015)); have n7_ := Aside0.mk ((by rw [hg]; exact Nat.ne_of_gt (blk_lt (g := gb53001) (o := .cells #[.int .i64 x53002000_1, .int .i64 x53002001_1, .bool x53002002_1] 32 (0, 0)) (BK53001.out)) : gb53015 ≠ gb53001)); clear HO_5; clear BK53001; clear HB; have HO_5 := n0_; have BK53001 := n1_; have HB := n2_; have BK53015 := n3_; have GW53015 := n4_; have GE53015 := n5_; have NB53001_53015 := n6_; have NB53015_53001 := n7_; clear n0_ n1_ n2_ n3_ n4_ n5_ n6_ n7_; clear hb hbox hg; have hnb24 := NB53015_53001.out; have hnc24 := NB53001_53015.out; have hcz25_0 : w23.cell? ⟨gb53015, 0, none⟩ = some (.int .i64 0) := (blk_cell BK53015.out 0).trans rfl; have hcz25_1 : w23.cell? ⟨gb53015, 1, none⟩ = some (.int .i64 0) := (blk_cell BK53015.out 1).trans rfl; have hcz25_2 : w23.cell? ⟨gb53015, 2, none⟩ = some (.bool false) := (blk_cell BK53015.out 2).trans rfl; have hfz25_0 := blk_frozen BK53015.out 0; have hfz25_1 := blk_frozen BK53015.out 1; have hfz25_2 := blk_frozen BK53015.out 2))
        have n0_ : Aside0 (Kd.R k32 32 (((w23.setCell ⟨gb53015, 0, none⟩ (.int .i64 ((rd_T32 x5_1 (ji16)).f0))).setCell ⟨gb53015, 1, none⟩ (.int .i64 ((rd_T32 x5_1 (ji16)).f1))).setCell ⟨gb53015, 2, none⟩ (.bool ((rd_T32 x5_1 (ji16)).f2))) w.heap.size (fun k_ => k_ ≠ gb53001 ∧ k_ ≠ gb53015) (.slice (some ad53014) x5_1.length co22) x5_1) := ⟨by exact Kd.R_mono (Kd.R_far (p := ⟨gb53015, 2, none⟩) (Kd.R_far (p := ⟨gb53015, 1, none⟩) (Kd.R_far (p := ⟨gb53015, 0, none⟩) (Kd.R_mono HO_5.out (fun k_ hk => (⟨hk, hk.2⟩ : _ ∧ k_ ≠ gb53015))) (fun _ hk => hk.2) (.int .i64 ((rd_T32 x5_1 (ji16)).f0))) (fun _ hk => hk.2) (.int .i64 ((rd_T32 x5_1 (ji16)).f1))) (fun _ hk => hk.2) (.bool ((rd_T32 x5_1 (ji16)).f2))) (fun _ hk => ⟨hk.1.1, hk.1.2⟩)⟩
        have n1_ : Aside0 ((((w23.setCell ⟨gb53015, 0, none⟩ (.int .i64 ((rd_T32 x5_1 (ji16)).f0))).setCell ⟨gb53015, 1, none⟩ (.int .i64 ((rd_T32 x5_1 (ji16)).f1))).setCell ⟨gb53015, 2, none⟩ (.bool ((rd_T32 x5_1 (ji16)).f2))).heap[gb53001]? = some (.cells #[.int .i64 x53002000_1, .int .i64 x53002001_1, .bool x53002002_1] 32 (0, 0))) := ⟨by refine blk_far ?_ NB53001_53015.out _; refine blk_far ?_ NB53001_53015.out _; refine blk_far ?_ NB53001_53015.out _; exact BK53001.out⟩
        have n2_ : Aside0 ((((w23.setCell ⟨gb53015, 0, none⟩ (.int .i64 ((rd_T32 x5_1 (ji16)).f0))).setCell ⟨gb53015, 1, none⟩ (.int .i64 ((rd_T32 x5_1 (ji16)).f1))).setCell ⟨gb53015, 2, none⟩ (.bool ((rd_T32 x5_1 (ji16)).f2))).heap[gb53015]? = some (.cells #[.int .i64 ((rd_T32 x5_1 (ji16)).f0), .int .i64 ((rd_T32 x5_1 (ji16)).f1), .bool ((rd_T32 x5_1 (ji16)).f2)] 32 (0, 0))) := ⟨by refine blk_put (cs := #[.int .i64 ((rd_T32 x5_1 (ji16)).f0), .int .i64 ((rd_T32 x5_1 (ji16)).f1), .bool false]) ?_ 2 _ rfl; refine blk_put (cs := #[.int .i64 ((rd_T32 x5_1 (ji16)).f0), .int .i64 0, .bool false]) ?_ 1 _ rfl; refine blk_put (cs := #[.int .i64 0, .int .i64 0, .bool false]) ?_ 0 _ rfl; exact BK53015.out⟩
        have n3_ : Aside0 (Below w.heap.size w (((w23.setCell ⟨gb53015, 0, none⟩ (.int .i64 ((rd_T32 x5_1 (ji16)).f0))).setCell ⟨gb53015, 1, none⟩ (.int .i64 ((rd_T32 x5_1 (ji16)).f1))).setCell ⟨gb53015, 2, none⟩ (.bool ((rd_T32 x5_1 (ji16)).f2)))) := ⟨by repeat (first | exact HB.out | apply below_alloc | apply pw_below_drewN | apply below_drew1 | refine below_set ?_ GE53001.out | refine below_set ?_ GE53015.out)⟩
        (try clear HO_5)
        (try clear BK53001)
        (try clear BK53015)
        (try clear HB)
        generalize (((w23.setCell ⟨gb53015, 0, none⟩ (.int .i64 ((rd_T32 x5_1 (ji16)).f0))).setCell ⟨gb53015, 1, none⟩ (.int .i64 ((rd_T32 x5_1 (ji16)).f1))).setCell ⟨gb53015, 2, none⟩ (.bool ((rd_T32 x5_1 (ji16)).f2))) = w26 at n0_ n1_ n2_ n3_ ⊢
        have HO_5 := n0_
        have BK53001 := n1_
        have BK53015 := n2_
        have HB := n3_
        clear n0_ n1_ n2_ n3_
        have n0_ := Aside0.mk (Kd.R_drew HO_5.out)
        have n1_ := Aside0.mk (blk_drew BK53001.out)
        have n2_ := Aside0.mk (blk_drew BK53015.out)
        have n3_ := Aside0.mk (below_drew1 HB.out)
        clear HO_5
        clear BK53001
        clear BK53015
        clear HB
        have HO_5 := n0_
        have BK53001 := n1_
        have BK53015 := n2_
        have HB := n3_
        clear n0_ n1_ n2_ n3_
        refine start_ (n := 9) (S := fun w' => w'.cell? ⟨gb53001, 0, none⟩ = some (.int .i64 x53002000_1) ∧ w'.cell? ⟨gb53001, 1, none⟩ = some (.int .i64 x53002001_1) ∧ w'.cell? ⟨gb53001, 2, none⟩ = some (.bool x53002002_1) ∧ w'.cell? ⟨gb53015, 0, none⟩ = some (.int .i64 ((rd_T32 x5_1 (ji16)).f0)) ∧ w'.cell? ⟨gb53015, 1, none⟩ = some (.int .i64 ((rd_T32 x5_1 (ji16)).f1)) ∧ w'.cell? ⟨gb53015, 2, none⟩ = some (.bool ((rd_T32 x5_1 (ji16)).f2))) (ds := []) #[false, false, false, false, false, false, false, false, false] (by kernel_rfl) rfl rfl ⟨(blk_cell BK53001.out 0).trans rfl, (blk_cell BK53001.out 1).trans rfl, (blk_cell BK53001.out 2).trans rfl, (blk_cell BK53015.out 0).trans rfl, (blk_cell BK53015.out 1).trans rfl, (blk_cell BK53015.out 2).trans rfl⟩ (fun hHeld => ?_); refine with_tabW papermillref13_more.tab7 papermillref13_more.bits7 (fun HT_ HW_ => ?_)
        generalize w26.drew = w27 at HO_5 BK53001 BK53015 HB hHeld ⊢
        refine pure_ (i := 0) (N := some 32) (v := ?_) (a' := ?_) #[true, false, false, false, false, false, false, false, false] rfl rfl (any_of HT_.out (by kernel_rfl)) (fun _ _ _ h => h) (Or.inl ⟨by rfl, ?_⟩) ?_ ?_
        rotate_left
        ·intro w'
         go_simp
         with_reducible rfl
        rotate_left
        ·simp only [Act.put, List.setIfInBounds_toArray, List.set_cons_zero, List.set_cons_succ, i64_w, i32_w]
         rfl
        refine pure_ (i := 3) (N := some 35) (v := ?_) (a' := ?_) #[true, false, false, true, false, false, false, false, false] rfl rfl (any_of HT_.out (by kernel_rfl)) (fun _ _ _ h => h) (Or.inl ⟨by rfl, ?_⟩) ?_ ?_
        rotate_left
        ·intro w'
         go_simp
         with_reducible rfl
        rotate_left
        ·simp only [Act.put, List.setIfInBounds_toArray, List.set_cons_zero, List.set_cons_succ, i64_w, i32_w]
         rfl
        refine take_ (i := 1) (N := some 33) (v := ?_) (a' := ?_) #[true, true, false, true, false, false, false, false, false] rfl rfl (take_ofW HT_.out HW_.out (by kernel_rfl)) (fun _ _ _ h => h) (Or.inl ⟨by rfl, ?_⟩) hHeld ?_ ?_
        rotate_left
        ·rintro w' ⟨s0, s1, s2, s3, s4, s5⟩
         go_simp
         with_reducible rfl
        rotate_left
        ·simp only [Act.put, List.setIfInBounds_toArray, List.set_cons_zero, List.set_cons_succ, i64_w, i32_w]
         rfl
        refine take_ (i := 2) (N := some 34) (v := ?_) (a' := ?_) #[true, true, true, true, false, false, false, false, false] rfl rfl (take_ofW HT_.out HW_.out (by kernel_rfl)) (fun _ _ _ h => h) (Or.inl ⟨by rfl, ?_⟩) hHeld ?_ ?_
        rotate_left
        ·rintro w' ⟨s0, s1, s2, s3, s4, s5⟩
         go_simp
         with_reducible rfl
        rotate_left
        ·simp only [Act.put, List.setIfInBounds_toArray, List.set_cons_zero, List.set_cons_succ, i64_w, i32_w]
         rfl
        refine take_ (i := 4) (N := some 36) (v := ?_) (a' := ?_) #[true, true, true, true, true, false, false, false, false] rfl rfl (take_ofW HT_.out HW_.out (by kernel_rfl)) (fun _ _ _ h => h) (Or.inl ⟨by rfl, ?_⟩) hHeld ?_ ?_
        rotate_left
        ·rintro w' ⟨s0, s1, s2, s3, s4, s5⟩
         go_simp
         with_reducible rfl
        rotate_left
        ·simp only [Act.put, List.setIfInBounds_toArray, List.set_cons_zero, List.set_cons_succ, i64_w, i32_w]
         rfl
        refine pure_ (i := 5) (N := some 37) (v := ?_) (a' := ?_) #[true, true, true, true, true, true, false, false, false] rfl rfl (any_of HT_.out (by kernel_rfl)) (fun _ _ _ h => h) (Or.inl ⟨by rfl, ?_⟩) ?_ ?_
        rotate_left
        ·intro w'
         go_simp
         with_reducible rfl
        rotate_left
        ·simp only [Act.put, List.setIfInBounds_toArray, List.set_cons_zero, List.set_cons_succ, i64_w, i32_w]
         rfl
        refine one_ (i := 6) (N := some 38) #[true, true, true, true, true, true, true, false, false] rfl rfl (one_of HT_.out (by kernel_rfl)) (by decide) (fun K hK => ?_)
        refine goes_ Try.func53 (by kernel_rfl) rfl #[.agg #[.int .i64 ((rd_T32 x5_1 (ji16)).f0), .int .i64 ((rd_T32 x5_1 (ji16)).f1), .bool ((rd_T32 x5_1 (ji16)).f2)], .int .i64 (wrap64 (((rd_T32 x5_1 (ji16)).f1) - 1))] (by rfl) rfl rfl (by (try simp only [List.map_toArray, List.map_cons, List.map_nil]); first | done | (simp only [hji16]; rfl) | rfl | (simp only [List.length_drop, List.length_take]; rfl)) ?_
        with_reducible refine (papermillref13_image.calls ((rd_T32 x5_1 (ji16)).f0) ((rd_T32 x5_1 (ji16)).f1) ((rd_T32 x5_1 (ji16)).f2) (wrap64 (((rd_T32 x5_1 (ji16)).f1) - 1)) t53016 _ A19.out).mono ?_
        rintro e w28 ⟨rfl, hb⟩
        refine ⟨_, rfl, ?_⟩
        have n0_ := Aside0.mk (Kd.R_below (HO_5.out) hb)
        have n1_ := Aside0.mk (blk_below (g := gb53001) (o := .cells #[.int .i64 x53002000_1, .int .i64 x53002001_1, .bool x53002002_1] 32 (0, 0)) (BK53001.out) hb)
        have n2_ := Aside0.mk (blk_below (g := gb53015) (o := .cells #[.int .i64 ((rd_T32 x5_1 (ji16)).f0), .int .i64 ((rd_T32 x5_1 (ji16)).f1), .bool ((rd_T32 x5_1 (ji16)).f2)] 32 (0, 0)) (BK53015.out) hb)
        have n3_ := Aside0.mk (below_step (by repeat (first | exact HB.out | apply below_alloc | apply pw_below_drewN | apply below_drew1 | refine below_set ?_ GE53001.out | refine below_set ?_ GE53015.out)) hb)
        clear HO_5
        clear BK53001
        clear BK53015
        clear HB
        have HO_5 := n0_
        have BK53001 := n1_
        have BK53015 := n2_
        have HB := n3_
        clear n0_ n1_ n2_ n3_
        (try clear hb)
        (try clear hb2)
        (try clear hk)
        (try clear hi)
        refine hK.out _ _ ⟨(blk_cell BK53001.out 0).trans rfl, (blk_cell BK53001.out 1).trans rfl, (blk_cell BK53001.out 2).trans rfl, (blk_cell BK53015.out 0).trans rfl, (blk_cell BK53015.out 1).trans rfl, (blk_cell BK53015.out 2).trans rfl⟩ (fun hHeld => ?_)
        clear hK K
        refine norm_ (a' := ?_) ?_ ?_
        rotate_left
        ·show Act.put _ (some 38) _ = _
         simp only [Act.put, List.setIfInBounds_toArray, List.set_cons_zero, List.set_cons_succ, i64_w, i32_w]
         rfl
        refine pure_ (i := 7) (N := some 39) (v := ?_) (a' := ?_) #[true, true, true, true, true, true, true, true, false] rfl rfl (any_of HT_.out (by kernel_rfl)) (fun _ _ _ h => h) (Or.inl ⟨by rfl, ?_⟩) ?_ ?_
        rotate_left
        ·intro w'
         go_simp
         with_reducible rfl
        rotate_left
        ·simp only [Act.put, List.setIfInBounds_toArray, List.set_cons_zero, List.set_cons_succ, i64_w, i32_w]
         rfl
        refine pure_ (i := 8) (N := some 8) (v := ?_) (a' := ?_) #[true, true, true, true, true, true, true, true, true] rfl rfl (any_of HT_.out (by kernel_rfl)) (fun _ _ _ h => h) (Or.inl ⟨by rfl, ?_⟩) ?_ ?_
        rotate_left
        ·intro w'
         go_simp
         with_reducible rfl
        rotate_left
        ·simp only [Act.put, List.setIfInBounds_toArray, List.set_cons_zero, List.set_cons_succ, i64_w, i32_w]
         rfl
        refine done_ (done_of HT_.out (by kernel_rfl)) ?_
        go_upto_region 8 with (fail)
        go_cut [57] (fun v57 wc => ∃ (kq : Nat) (x57_19 : Bool), v57 = .bool x57_19 ∧ Aside0 (papermillref13_more.j1 kq x5_1 ji16 (wrap64 (x53002000_1 - t53016)) x57_19 x53002000_1 x53002001_1 x53002002_1 ((rd_T32 x5_1 (ji16)).f0) ((rd_T32 x5_1 (ji16)).f1) ((rd_T32 x5_1 (ji16)).f2) = some r) ∧ Aside0 (kq ≤ k1) ∧ Aside0 (Kd.R k32 32 wc w.heap.size (fun k_ => k_ ≠ gb53001 ∧ k_ ≠ gb53015) (.slice (some ad53014) x5_1.length co22) x5_1) ∧ Aside0 (wc.heap[gb53001]? = some (.cells #[.int .i64 x53002000_1, .int .i64 x53002001_1, .bool x53002002_1] 32 (0, 0))) ∧ Aside0 (wc.heap[gb53015]? = some (.cells #[.int .i64 ((rd_T32 x5_1 (ji16)).f0), .int .i64 ((rd_T32 x5_1 (ji16)).f1), .bool ((rd_T32 x5_1 (ji16)).f2)] 32 (0, 0))) ∧ Aside0 (Below w.heap.size w wc))
        case first =>
         have H := HC20.out
         clear HC20
         by_cases c29 : (wrap64 (x53002000_1 - t53016)) = 1
         ·rw [if_pos c29] at H
          have c29b0 : ((wrap64 (x53002000_1 - t53016)) == 1) = true := beq_iff_eq.mpr c29
          have c29b1 : ((wrap64 (x53002000_1 - t53016)) != 1) = false := bne_eq_false_iff_eq.mpr c29
          clear c29
          (first | rw [c29b0] | (simp only [i64_w, i32_w]; rw [c29b0]) | skip)
          by_cases c30 : ((rd_T32 x5_1 (ji16)).f1) > 1
          ·rw [if_pos c30] at H
           have c30b0 : decide (1 < ((rd_T32 x5_1 (ji16)).f1)) = true := decide_eq_true c30
           clear c30
           have H' := Aside0.mk H
           clear H
           have hnb31 := NB53015_53001.out
           have hnc31 := NB53001_53015.out
           have hcz32_0 : w28.cell? ⟨gb53015, 0, none⟩ = some (.int .i64 ((rd_T32 x5_1 (ji16)).f0)) := (blk_cell BK53015.out 0).trans rfl
           have hcz32_1 : w28.cell? ⟨gb53015, 1, none⟩ = some (.int .i64 ((rd_T32 x5_1 (ji16)).f1)) := (blk_cell BK53015.out 1).trans rfl
           have hcz32_2 : w28.cell? ⟨gb53015, 2, none⟩ = some (.bool ((rd_T32 x5_1 (ji16)).f2)) := (blk_cell BK53015.out 2).trans rfl
           have hfz32_0 := blk_frozen BK53015.out 0
           have hfz32_1 := blk_frozen BK53015.out 1
           have hfz32_2 := blk_frozen BK53015.out 2
           go_wp2
           go_meet
           case rel => exact ⟨_, ((((rd_T32 x5_1 (ji16)).f2) != ((wrap64 (x53002000_1 - t53016)) == (-1)))), (by first | rfl | (simp; done) | (simp only [← hji16] <;> (first | rfl | (simp; done))) | (simp [*]; done)), H', ⟨by have := HK1.out; first | omega | exact Nat.le_refl _⟩, ⟨HO_5.out⟩, ⟨BK53001.out⟩, ⟨BK53015.out⟩, ⟨by repeat (first | exact HB.out | apply below_alloc | apply pw_below_drewN | apply below_drew1 | refine below_set ?_ GE53001.out | refine below_set ?_ GE53015.out)⟩⟩
          ·rw [if_neg c30] at H
           have c30b0 : decide (1 < ((rd_T32 x5_1 (ji16)).f1)) = false := decide_eq_false c30
           clear c30
           have H' := Aside0.mk H
           clear H
           have hnb33 := NB53015_53001.out
           have hnc33 := NB53001_53015.out
           have hcz34_0 : w28.cell? ⟨gb53015, 0, none⟩ = some (.int .i64 ((rd_T32 x5_1 (ji16)).f0)) := (blk_cell BK53015.out 0).trans rfl
           have hcz34_1 : w28.cell? ⟨gb53015, 1, none⟩ = some (.int .i64 ((rd_T32 x5_1 (ji16)).f1)) := (blk_cell BK53015.out 1).trans rfl
           have hcz34_2 : w28.cell? ⟨gb53015, 2, none⟩ = some (.bool ((rd_T32 x5_1 (ji16)).f2)) := (blk_cell BK53015.out 2).trans rfl
           have hfz34_0 := blk_frozen BK53015.out 0
           have hfz34_1 := blk_frozen BK53015.out 1
           have hfz34_2 := blk_frozen BK53015.out 2
           go_wp2
           go_meet
           case rel => exact ⟨_, (false), (by first | rfl | (simp; done) | (simp [*]; done)), H', ⟨by have := HK1.out; first | omega | exact Nat.le_refl _⟩, ⟨HO_5.out⟩, ⟨BK53001.out⟩, ⟨BK53015.out⟩, ⟨by repeat (first | exact HB.out | apply below_alloc | apply pw_below_drewN | apply below_drew1 | refine below_set ?_ GE53001.out | refine below_set ?_ GE53015.out)⟩⟩
         ·rw [if_neg c29] at H
          have c29b0 : ((wrap64 (x53002000_1 - t53016)) == 1) = false := beq_eq_false_iff_ne.mpr c29
          have c29b1 : ((wrap64 (x53002000_1 - t53016)) != 1) = true := bne_iff_ne.mpr c29
          (first | rw [c29b0] | (simp only [i64_w, i32_w]; rw [c29b0]) | skip)
          by_cases c35 : (wrap64 (x53002000_1 - t53016)) = (-1)
          ·rw [if_pos c35] at H
           have c35b0 : ((wrap64 (x53002000_1 - t53016)) == (-1)) = true := beq_iff_eq.mpr c35
           have c35b1 : ((wrap64 (x53002000_1 - t53016)) != (-1)) = false := bne_eq_false_iff_eq.mpr c35
           clear c35
           by_cases c36 : ((rd_T32 x5_1 (ji16)).f1) > 1
           ·rw [if_pos c36] at H
            have c36b0 : decide (1 < ((rd_T32 x5_1 (ji16)).f1)) = true := decide_eq_true c36
            clear c36
            have H' := Aside0.mk H
            clear H
            have hnb37 := NB53015_53001.out
            have hnc37 := NB53001_53015.out
            have hcz38_0 : w28.cell? ⟨gb53015, 0, none⟩ = some (.int .i64 ((rd_T32 x5_1 (ji16)).f0)) := (blk_cell BK53015.out 0).trans rfl
            have hcz38_1 : w28.cell? ⟨gb53015, 1, none⟩ = some (.int .i64 ((rd_T32 x5_1 (ji16)).f1)) := (blk_cell BK53015.out 1).trans rfl
            have hcz38_2 : w28.cell? ⟨gb53015, 2, none⟩ = some (.bool ((rd_T32 x5_1 (ji16)).f2)) := (blk_cell BK53015.out 2).trans rfl
            have hfz38_0 := blk_frozen BK53015.out 0
            have hfz38_1 := blk_frozen BK53015.out 1
            have hfz38_2 := blk_frozen BK53015.out 2
            go_wp2
            go_meet
            case rel => exact ⟨_, ((((rd_T32 x5_1 (ji16)).f2) != ((wrap64 (x53002000_1 - t53016)) == (-1)))), (by first | rfl | (simp; done) | (simp only [← hji16] <;> (first | rfl | (simp; done))) | (simp [*]; done)), H', ⟨by have := HK1.out; first | omega | exact Nat.le_refl _⟩, ⟨HO_5.out⟩, ⟨BK53001.out⟩, ⟨BK53015.out⟩, ⟨by repeat (first | exact HB.out | apply below_alloc | apply pw_below_drewN | apply below_drew1 | refine below_set ?_ GE53001.out | refine below_set ?_ GE53015.out)⟩⟩
           ·rw [if_neg c36] at H
            have c36b0 : decide (1 < ((rd_T32 x5_1 (ji16)).f1)) = false := decide_eq_false c36
            clear c36
            have H' := Aside0.mk H
            clear H
            have hnb39 := NB53015_53001.out
            have hnc39 := NB53001_53015.out
            have hcz40_0 : w28.cell? ⟨gb53015, 0, none⟩ = some (.int .i64 ((rd_T32 x5_1 (ji16)).f0)) := (blk_cell BK53015.out 0).trans rfl
            have hcz40_1 : w28.cell? ⟨gb53015, 1, none⟩ = some (.int .i64 ((rd_T32 x5_1 (ji16)).f1)) := (blk_cell BK53015.out 1).trans rfl
            have hcz40_2 : w28.cell? ⟨gb53015, 2, none⟩ = some (.bool ((rd_T32 x5_1 (ji16)).f2)) := (blk_cell BK53015.out 2).trans rfl
            have hfz40_0 := blk_frozen BK53015.out 0
            have hfz40_1 := blk_frozen BK53015.out 1
            have hfz40_2 := blk_frozen BK53015.out 2
            go_wp2
            go_meet
            case rel => exact ⟨_, (false), (by first | rfl | (simp; done) | (simp [*]; done)), H', ⟨by have := HK1.out; first | omega | exact Nat.le_refl _⟩, ⟨HO_5.out⟩, ⟨BK53001.out⟩, ⟨BK53015.out⟩, ⟨by repeat (first | exact HB.out | apply below_alloc | apply pw_below_drewN | apply below_drew1 | refine below_set ?_ GE53001.out | refine below_set ?_ GE53015.out)⟩⟩
          ·rw [if_neg c35] at H
           have c35b0 : ((wrap64 (x53002000_1 - t53016)) == (-1)) = false := beq_eq_false_iff_ne.mpr c35
           have c35b1 : ((wrap64 (x53002000_1 - t53016)) != (-1)) = true := bne_iff_ne.mpr c35
           have H' := Aside0.mk H
           clear H
           go_wp2
           go_meet
           case rel => exact ⟨_, (true), (by first | rfl | (simp; done) | (simp [*]; done)), H', ⟨by have := HK1.out; first | omega | exact Nat.le_refl _⟩, ⟨HO_5.out⟩, ⟨BK53001.out⟩, ⟨BK53015.out⟩, ⟨by repeat (first | exact HB.out | apply below_alloc | apply pw_below_drewN | apply below_drew1 | refine below_set ?_ GE53001.out | refine below_set ?_ GE53015.out)⟩⟩
        case rest =>
         clear HC20
         try clear c1
         try clear c2
         try clear p2
         try clear c3
         try clear c5
         try clear p5
         try clear q5
         try clear hx5
         try clear c6
         try clear p6
         try clear c8
         try clear c8b0
         try clear c9
         try clear c9b0
         try clear c11
         try clear c17
         try clear c17b0
         try clear c18
         try clear c18b0
         try clear c24
         try clear c29
         try clear c29b0
         try clear c29b1
         try clear c30
         try clear c30b0
         try clear c31
         try clear c33
         try clear c35
         try clear c35b0
         try clear c35b1
         try clear c36
         try clear c36b0
         try clear c37
         try clear c39
         try clear hcz12_0
         try clear hcz12_1
         try clear hcz12_2
         try clear hcz21_0
         try clear hcz21_1
         try clear hcz21_2
         try clear hcz25_0
         try clear hcz25_1
         try clear hcz25_2
         try clear hcz32_0
         try clear hcz32_1
         try clear hcz32_2
         try clear hcz34_0
         try clear hcz34_1
         try clear hcz34_2
         try clear hcz38_0
         try clear hcz38_1
         try clear hcz38_2
         try clear hcz40_0
         try clear hcz40_1
         try clear hcz40_2
         try clear hfz12_0
         try clear hfz12_1
         try clear hfz12_2
         try clear hfz21_0
         try clear hfz21_1
         try clear hfz21_2
         try clear hfz25_0
         try clear hfz25_1
         try clear hfz25_2
         try clear hfz32_0
         try clear hfz32_1
         try clear hfz32_2
         try clear hfz34_0
         try clear hfz34_1
         try clear hfz34_2
         try clear hfz38_0
         try clear hfz38_1
         try clear hfz38_2
         try clear hfz40_0
         try clear hfz40_1
         try clear hfz40_2
         try clear hx53014_0
         try clear hx53014_1
         try clear hx53014_2
         try clear p2
         try clear p53014
         try clear q53014
         obtain ⟨kq, x57_19, rfl, HA, HJ19, HO_5, BK53001, BK53015, HB⟩ := hcut
         cases kq with
         | zero => exact absurd HA.out (by simp [papermillref13_more.j1])
         | succ kj19 =>
          have H := HA.out
          clear HA
          simp only [papermillref13_more.j1] at H
          by_cases c41 : x57_19 = true
          ·subst c41
           have H1 : ((papermillref13_cut.f x53002000_1 x53002001_1 x53002002_1 0 x53002001_1).bind fun bt53017 => (if x5_1.length < 5864062014805 then (some (x5_1 ++ [(⟨bt53017.1, bt53017.2.1, bt53017.2.2⟩ : S32)])) else (none))) = some r := by rw [if_pos rfl] at H; exact H
           clear H
           have H := H1
           clear H1
           replace H := Option.bind_eq_some_iff.mp H
           obtain ⟨⟨t53017, t53018, t53019⟩, A420, H⟩ := H
           replace H : (if x5_1.length < 5864062014805 then (some (x5_1 ++ [(⟨t53017, t53018, t53019⟩ : S32)])) else (none)) = some r := H
           have A42 := Aside0.mk A420
           clear A420
           by_cases c43 : x5_1.length < 5864062014805
           ·rw [if_pos c43] at H
            have LMc43 := Aside0.mk c43
            clear c43
            obtain ⟨y53020, hy53020⟩ : ∃ y_ : List (S32), y_ = (x5_1 ++ [(⟨t53017, t53018, t53019⟩ : S32)]) := ⟨_, rfl⟩
            replace H : (some y53020) = some r := by first | (rw [hy53020]; with_reducible exact H) | (have H2_ := (Option.bind_some _ _).symm.trans H; rw [hy53020]; with_reducible exact H2_) | (have H2_ := (Option.bind_some _ _).symm.trans H; with_reducible exact H2_) | with_reducible exact H | (rw [hy53020]; exact H) | exact H
            have Ny53020 := Aside0.mk hy53020
            clear hy53020
            obtain rfl := Option.some.inj H
            have hnb44 := NB53001_53015.out
            have hnc44 := NB53015_53001.out
            have hcz45_0 : wc.cell? ⟨gb53001, 0, none⟩ = some (.int .i64 x53002000_1) := (blk_cell BK53001.out 0).trans rfl
            have hcz45_1 : wc.cell? ⟨gb53001, 1, none⟩ = some (.int .i64 x53002001_1) := (blk_cell BK53001.out 1).trans rfl
            have hcz45_2 : wc.cell? ⟨gb53001, 2, none⟩ = some (.bool x53002002_1) := (blk_cell BK53001.out 2).trans rfl
            have hfz45_0 := blk_frozen BK53001.out 0
            have hfz45_1 := blk_frozen BK53001.out 1
            have hfz45_2 := blk_frozen BK53001.out 2
            go_wp2_with (first | ((with_reducible refine gate_callee (f := 64) rfl ?_); refine goesL_ (some 62) rfl rfl Try.func64 (by kernel_rfl) rfl #[.agg #[.int .i64 x53002000_1, .int .i64 x53002001_1, .bool x53002002_1], .int .i64 0, .int .i64 x53002001_1] rfl (by (try simp only [List.map_toArray, List.map_cons, List.map_nil]); first | done | rfl | (simp only [List.length_drop, List.length_take]; rfl)) ?_; (with_reducible refine (papermillref13_cut.calls x53002000_1 x53002001_1 x53002002_1 0 x53002001_1 t53017 t53018 t53019 _ A42.out).mono ?_); rintro e w46 ⟨rfl, hb⟩; refine ⟨_, rfl, ?_⟩; have n0_ := Aside0.mk (Kd.R_below (HO_5.out) hb); have n1_ := Aside0.mk (blk_below (g := gb53001) (o := .cells #[.int .i64 x53002000_1, .int .i64 x53002001_1, .bool x53002002_1] 32 (0, 0)) (BK53001.out) hb); have n2_ := Aside0.mk (blk_below (g := gb53015) (o := .cells #[.int .i64 ((rd_T32 x5_1 (ji16)).f0), .int .i64 ((rd_T32 x5_1 (ji16)).f1), .bool ((rd_T32 x5_1 (ji16)).f2)] 32 (0, 0)) (BK53015.out) hb); have n3_ := Aside0.mk (below_step (by repeat (first | exact HB.out | apply below_alloc | apply pw_below_drewN | apply below_drew1 | refine below_set ?_ GE53001.out | refine below_set ?_ GE53015.out)) hb); clear HO_5; clear BK53001; clear BK53015; clear HB; have HO_5 := n0_; have BK53001 := n1_; have BK53015 := n2_; have HB := n3_; clear n0_ n1_ n2_ n3_; (try clear hb); (try clear hb2); (try clear hk); (try clear hi)) | ((with_reducible refine gate_builtin (b := .append) (xs := #[.tmp 58, .tmp 63]) rfl ?_); at_builtin; refine Kd.R_append k32 (w0 := w) w.heap.size rfl (.tmp 58) (.tmp 63) 22 32 (.agg #[(.int .i64 0), (.int .i64 0), (.bool false)]) 24 rfl Try.underlying22 info32 rfl (by decide) (by omega) (.slice (some ad53014) x5_1.length co22) x5_1 (⟨t53017, t53018, t53019⟩ : S32) [.int .i64 t53017, .int .i64 t53018, .bool t53019] (fun k_ => k_ ≠ gb53001 ∧ k_ ≠ gb53015) (fun _ => False) rfl rfl ?aP (fun _ hk => hk.elim) ?aF ?aO ?aB ?aS ?aL ?_; (case aP => exact k32_mkM _ _ _ (⟨t53017, t53018, t53019⟩ : S32)); (case aB => exact (by repeat (first | exact HB.out | apply below_alloc | apply pw_below_drewN | apply below_drew1 | refine below_set ?_ GE53001.out | refine below_set ?_ GE53015.out))); (case aF => exact (fun k_ hk => ⟨Kd.freshB (g := gb53001) (o := .cells #[.int .i64 x53002000_1, .int .i64 x53002001_1, .bool x53002002_1] 32 (0, 0)) (BK53001.out) k_ hk, Kd.freshB (g := gb53015) (o := .cells #[.int .i64 ((rd_T32 x5_1 (ji16)).f0), .int .i64 ((rd_T32 x5_1 (ji16)).f1), .bool ((rd_T32 x5_1 (ji16)).f2)] 32 (0, 0)) (BK53015.out) k_ hk⟩)); (case aO => exact (HO_5.out)); (case aS => exact (below_size (by repeat (first | exact HB.out | apply below_alloc | apply pw_below_drewN | apply below_drew1 | refine below_set ?_ GE53001.out | refine below_set ?_ GE53015.out)))); (case aL => have := LMc43.out; omega); intro v53021 w47 ho hb hg hat; rw [← Ny53020.out] at ho; have n0_ := Aside0.mk (blk_grown (g := gb53001) (o := .cells #[.int .i64 x53002000_1, .int .i64 x53002001_1, .bool x53002002_1] 32 (0, 0)) (BK53001.out) hg (Kd.R_away HO_5.out (fun _ hk => hk.1))); have n1_ := Aside0.mk (blk_grown (g := gb53015) (o := .cells #[.int .i64 ((rd_T32 x5_1 (ji16)).f0), .int .i64 ((rd_T32 x5_1 (ji16)).f1), .bool ((rd_T32 x5_1 (ji16)).f2)] 32 (0, 0)) (BK53015.out) hg (Kd.R_away HO_5.out (fun _ hk => hk.2))); have n2_ := Aside0.mk (hb); have n3_ := Aside0.mk (ho); clear BK53001; clear BK53015; clear HB; clear HO_5; have BK53001 := n0_; have BK53015 := n1_; have HB := n2_; have HO53022 := n3_; clear n0_ n1_ n2_ n3_; clear ho hb hg hat))
            go_ret
            exact ⟨_, by first | rfl | (simp [errW_none, errW_some] <;> rfl) | (simp only [← hji16]; first | rfl | (simp [errW_none, errW_some] <;> rfl)) | (simp [*, errW_none, errW_some] <;> rfl), by exact Kd.R_mono HO53022.out (fun _ hk => trivial), by repeat (first | exact HB.out | apply below_alloc | apply pw_below_drewN | apply below_drew1 | refine below_set ?_ GE53001.out | refine below_set ?_ GE53015.out)⟩
           ·rw [if_neg c43] at H
            exact absurd H (by simp)
          ·replace c41 := Bool.eq_false_iff.mpr c41
           subst c41
           have H1 : (if x53002001_1 > 1 then (papermillref13_more.j2 kj19 x5_1 ji16 (wrap64 (x53002000_1 - t53016)) x53002001_1 (x53002002_1 != ((wrap64 (x53002000_1 - t53016)) == (-1))) x53002000_1 x53002001_1 x53002002_1 ((rd_T32 x5_1 (ji16)).f0) ((rd_T32 x5_1 (ji16)).f1) ((rd_T32 x5_1 (ji16)).f2)) else (papermillref13_more.j2 kj19 x5_1 ji16 (wrap64 (x53002000_1 - t53016)) x53002001_1 false x53002000_1 x53002001_1 x53002002_1 ((rd_T32 x5_1 (ji16)).f0) ((rd_T32 x5_1 (ji16)).f1) ((rd_T32 x5_1 (ji16)).f2))) = some r := by rw [if_neg (show ¬ (false = true) by decide)] at H; first | exact H | simpa using H
           clear H
           have H := H1
           clear H1
           have HC48 := Aside0.mk H
           clear H
           have hnb49 := NB53001_53015.out
           have hnc49 := NB53015_53001.out
           have hcz50_0 : wc.cell? ⟨gb53001, 0, none⟩ = some (.int .i64 x53002000_1) := (blk_cell BK53001.out 0).trans rfl
           have hcz50_1 : wc.cell? ⟨gb53001, 1, none⟩ = some (.int .i64 x53002001_1) := (blk_cell BK53001.out 1).trans rfl
           have hcz50_2 : wc.cell? ⟨gb53001, 2, none⟩ = some (.bool x53002002_1) := (blk_cell BK53001.out 2).trans rfl
           have hfz50_0 := blk_frozen BK53001.out 0
           have hfz50_1 := blk_frozen BK53001.out 1
           have hfz50_2 := blk_frozen BK53001.out 2
           go_upto_region 11 with (fail)
           go_cut [75] (fun v75 wc => ∃ (kq : Nat) (x75_47 : Bool), v75 = .bool x75_47 ∧ Aside0 (papermillref13_more.j2 kq x5_1 ji16 (wrap64 (x53002000_1 - t53016)) x53002001_1 x75_47 x53002000_1 x53002001_1 x53002002_1 ((rd_T32 x5_1 (ji16)).f0) ((rd_T32 x5_1 (ji16)).f1) ((rd_T32 x5_1 (ji16)).f2) = some r) ∧ Aside0 (kq ≤ kj19) ∧ Aside0 (Kd.R k32 32 wc w.heap.size (fun k_ => k_ ≠ gb53001 ∧ k_ ≠ gb53015) (.slice (some ad53014) x5_1.length co22) x5_1) ∧ Aside0 (wc.heap[gb53001]? = some (.cells #[.int .i64 x53002000_1, .int .i64 x53002001_1, .bool x53002002_1] 32 (0, 0))) ∧ Aside0 (wc.heap[gb53015]? = some (.cells #[.int .i64 ((rd_T32 x5_1 (ji16)).f0), .int .i64 ((rd_T32 x5_1 (ji16)).f1), .bool ((rd_T32 x5_1 (ji16)).f2)] 32 (0, 0))) ∧ Aside0 (Below w.heap.size w wc))
           case first =>
            have H := HC48.out
            clear HC48
            by_cases c51 : x53002001_1 > 1
            ·rw [if_pos c51] at H
             have c51b0 : decide (1 < x53002001_1) = true := decide_eq_true c51
             clear c51
             (first | rw [c51b0] | (simp only [i64_w, i32_w]; rw [c51b0]) | skip)
             have H' := Aside0.mk H
             clear H
             have hnb52 := NB53001_53015.out
             have hnc52 := NB53015_53001.out
             have hcz53_0 : wc.cell? ⟨gb53001, 0, none⟩ = some (.int .i64 x53002000_1) := (blk_cell BK53001.out 0).trans rfl
             have hcz53_1 : wc.cell? ⟨gb53001, 1, none⟩ = some (.int .i64 x53002001_1) := (blk_cell BK53001.out 1).trans rfl
             have hcz53_2 : wc.cell? ⟨gb53001, 2, none⟩ = some (.bool x53002002_1) := (blk_cell BK53001.out 2).trans rfl
             have hfz53_0 := blk_frozen BK53001.out 0
             have hfz53_1 := blk_frozen BK53001.out 1
             have hfz53_2 := blk_frozen BK53001.out 2
             go_wp2
             go_meet
             case rel => exact ⟨_, ((x53002002_1 != ((wrap64 (x53002000_1 - t53016)) == (-1)))), (by first | rfl | (simp; done) | (simp [*]; done)), H', ⟨by have := HK1.out; have := HJ19.out; first | omega | exact Nat.le_refl _⟩, ⟨HO_5.out⟩, ⟨BK53001.out⟩, ⟨BK53015.out⟩, ⟨by repeat (first | exact HB.out | apply below_alloc | apply pw_below_drewN | apply below_drew1 | refine below_set ?_ GE53001.out | refine below_set ?_ GE53015.out)⟩⟩
            ·rw [if_neg c51] at H
             have c51b0 : decide (1 < x53002001_1) = false := decide_eq_false c51
             clear c51
             (first | rw [c51b0] | (simp only [i64_w, i32_w]; rw [c51b0]) | skip)
             have H' := Aside0.mk H
             clear H
             go_wp2
             go_meet
             case rel => exact ⟨_, (false), (by first | rfl | (simp; done) | (simp [*]; done)), H', ⟨by have := HK1.out; have := HJ19.out; first | omega | exact Nat.le_refl _⟩, ⟨HO_5.out⟩, ⟨BK53001.out⟩, ⟨BK53015.out⟩, ⟨by repeat (first | exact HB.out | apply below_alloc | apply pw_below_drewN | apply below_drew1 | refine below_set ?_ GE53001.out | refine below_set ?_ GE53015.out)⟩⟩
           case rest =>
            clear HC48
            try clear c1
            try clear c2
            try clear p2
            try clear c3
            try clear c4
            try clear c5
            try clear p5
            try clear q5
            try clear hx5
            try clear c6
            try clear p6
            try clear c8
            try clear c8b0
            try clear c9
            try clear c9b0
            try clear c11
            try clear c17
            try clear c17b0
            try clear c18
            try clear c18b0
            try clear c24
            try clear c29
            try clear c29b0
            try clear c29b1
            try clear c30
            try clear c30b0
            try clear c31
            try clear c33
            try clear c35
            try clear c35b0
            try clear c35b1
            try clear c36
            try clear c36b0
            try clear c37
            try clear c39
            try clear c41
            try clear c43
            try clear c44
            try clear c49
            try clear c51
            try clear c51b0
            try clear c52
            try clear c53
            try clear p53
            try clear q53
            try clear hx53
            try clear hcz12_0
            try clear hcz12_1
            try clear hcz12_2
            try clear hcz21_0
            try clear hcz21_1
            try clear hcz21_2
            try clear hcz25_0
            try clear hcz25_1
            try clear hcz25_2
            try clear hcz32_0
            try clear hcz32_1
            try clear hcz32_2
            try clear hcz34_0
            try clear hcz34_1
            try clear hcz34_2
            try clear hcz38_0
            try clear hcz38_1
            try clear hcz38_2
            try clear hcz40_0
            try clear hcz40_1
            try clear hcz40_2
            try clear hcz45_0
            try clear hcz45_1
            try clear hcz45_2
            try clear hcz50_0
            try clear hcz50_1
            try clear hcz50_2
            try clear hcz53_0
            try clear hcz53_1
            try clear hcz53_2
            try clear hfz12_0
            try clear hfz12_1
            try clear hfz12_2
            try clear hfz21_0
            try clear hfz21_1
            try clear hfz21_2
            try clear hfz25_0
            try clear hfz25_1
            try clear hfz25_2
            try clear hfz32_0
            try clear hfz32_1
            try clear hfz32_2
            try clear hfz34_0
            try clear hfz34_1
            try clear hfz34_2
            try clear hfz38_0
            try clear hfz38_1
            try clear hfz38_2
            try clear hfz40_0
            try clear hfz40_1
            try clear hfz40_2
            try clear hfz45_0
            try clear hfz45_1
            try clear hfz45_2
            try clear hfz50_0
            try clear hfz50_1
            try clear hfz50_2
            try clear hfz53_0
            try clear hfz53_1
            try clear hfz53_2
            try clear hx53014_0
            try clear hx53014_1
            try clear hx53014_2
            try clear p2
            try clear p5
            try clear p53014
            try clear p6
            try clear q5
            try clear q53014
            obtain ⟨kq, x75_47, rfl, HA, HJ47, HO_5, BK53001, BK53015, HB⟩ := hcut
            cases kq with
            | zero => exact absurd HA.out (by simp [papermillref13_more.j2])
            | succ kj47 =>
             have H := HA.out
             clear HA
             simp only [papermillref13_more.j2] at H
             by_cases c54 : x75_47 = true
             ·subst c54
              have H1 : (if 0 ≤ ji16 then (if ji16 < (x5_1.length : Int) then ((some (x5_1.set (ji16 : Int).toNat (⟨((rd_T32 x5_1 (ji16)).f0), wrap64 (((rd_T32 x5_1 (ji16)).f1) + 1), ((wrap64 (x53002000_1 - t53016)) == (-1))⟩ : S32) : List (S32))).bind fun y53023 => (if 1 = x53002001_1 then (some y53023) else ((papermillref13_cut.f x53002000_1 x53002001_1 x53002002_1 1 (wrap64 (x53002001_1 - 1))).bind fun bt53024 => (papermillref13_more.l0 kj47 y53023 bt53024.1 bt53024.2.1 bt53024.2.2)))) else (none)) else (none)) = some r := by rw [if_pos rfl] at H; exact H
              clear H
              have H := H1
              clear H1
              by_cases c55 : 0 ≤ ji16
              ·rw [if_pos c55] at H
               have c55b0 : decide (0 ≤ ji16) = true := decide_eq_true c55
               clear c55
               by_cases c56 : ji16 < (x5_1.length : Int)
               ·rw [if_pos c56] at H
                have c56b0 : decide (ji16 < (x5_1.length : Int)) = true := decide_eq_true c56
                clear c56
                obtain ⟨y53023, hy53023⟩ : ∃ y_ : List (S32), y_ = (x5_1.set (ji16 : Int).toNat (⟨((rd_T32 x5_1 (ji16)).f0), wrap64 (((rd_T32 x5_1 (ji16)).f1) + 1), ((wrap64 (x53002000_1 - t53016)) == (-1))⟩ : S32)) := ⟨_, rfl⟩
                replace H : (if 1 = x53002001_1 then (some y53023) else ((papermillref13_cut.f x53002000_1 x53002001_1 x53002002_1 1 (wrap64 (x53002001_1 - 1))).bind fun bt53024 => (papermillref13_more.l0 kj47 y53023 bt53024.1 bt53024.2.1 bt53024.2.2))) = some r := by first | (rw [hy53023]; with_reducible exact H) | (have H2_ := (Option.bind_some _ _).symm.trans H; rw [hy53023]; with_reducible exact H2_) | (have H2_ := (Option.bind_some _ _).symm.trans H; with_reducible exact H2_) | with_reducible exact H | (rw [hy53023]; exact H) | exact H
                have Ny53023 := Aside0.mk hy53023
                clear hy53023
                by_cases c58 : 1 = x53002001_1
                ·rw [if_pos c58] at H
                 have c58b0 : (1 == x53002001_1) = true := beq_iff_eq.mpr c58
                 have c58b1 : (1 != x53002001_1) = false := bne_eq_false_iff_eq.mpr c58
                 clear c58
                 obtain rfl := Option.some.inj H
                 have hnb59 := NB53015_53001.out
                 have hnc59 := NB53001_53015.out
                 have hcz60_0 : wc.cell? ⟨gb53015, 0, none⟩ = some (.int .i64 ((rd_T32 x5_1 (ji16)).f0)) := (blk_cell BK53015.out 0).trans rfl
                 have hcz60_1 : wc.cell? ⟨gb53015, 1, none⟩ = some (.int .i64 ((rd_T32 x5_1 (ji16)).f1)) := (blk_cell BK53015.out 1).trans rfl
                 have hcz60_2 : wc.cell? ⟨gb53015, 2, none⟩ = some (.bool ((rd_T32 x5_1 (ji16)).f2)) := (blk_cell BK53015.out 2).trans rfl
                 have hfz60_0 := blk_frozen BK53015.out 0
                 have hfz60_1 := blk_frozen BK53015.out 1
                 have hfz60_2 := blk_frozen BK53015.out 2
                 have p57 : 0 ≤ (ji16 : Int) := of_decide_eq_true (by assumption)
                 have q57 : (ji16 : Int) < ((x5_1.length : Int) : Int) := of_decide_eq_true (by assumption)
                 obtain ⟨go57, co57, eo57, gb57, gl57, cl57, HG57⟩ := Kd.R_form HO_5.out (by omega)
                 (first | cases eo57 | (injection eo57 with ea_ en_ ec_; (first | subst ea_ | (injection ea_ with ea_; subst ea_)); subst ec_; clear en_))
                 have GB57 := Aside0.mk gb57
                 have GG57 := Aside0.mk HG57
                 clear gb57 gl57 HG57
                 (first | simp only [add_plain] at hx53014_0 | skip)
                 (first | simp only [add_plain] at hx53014_1 | skip)
                 (first | simp only [add_plain] at hx53014_2 | skip)
                 obtain ⟨ce57, hcl57, hM57, hcc57, hfr57⟩ := Kd.R_elem HO_5.out z32 (ji16 : Int) p57 q57
                 obtain rfl := k32_openM hM57
                 have hx57_0 : wc.cell? ⟨go57, (ji16 : Int).toNat * 3, none⟩ = some (.int .i64 ((rd_T32 x5_1 ji16).f0)) := hcc57 0 _ rfl
                 have hx57_1 : wc.cell? ⟨go57, (ji16 : Int).toNat * 3 + 1, none⟩ = some (.int .i64 ((rd_T32 x5_1 ji16).f1)) := hcc57 1 _ rfl
                 have hx57_2 : wc.cell? ⟨go57, (ji16 : Int).toNat * 3 + 2, none⟩ = some (.bool ((rd_T32 x5_1 ji16).f2)) := hcc57 2 _ rfl
                 have hf57_0 : wc.frozen? ⟨go57, (ji16 : Int).toNat * 3, none⟩ = false := hfr57 0
                 have hf57_1 : wc.frozen? ⟨go57, (ji16 : Int).toNat * 3 + 1, none⟩ = false := hfr57 1
                 have hf57_2 : wc.frozen? ⟨go57, (ji16 : Int).toNat * 3 + 2, none⟩ = false := hfr57 2
                 clear hcl57 hcc57 hfr57 hM57
                 replace p57 := eq_true p57
                 replace q57 := eq_true q57
                 have HX61 := Aside0.mk (show Kd.R k32 32 wc w.heap.size (fun k_ => k_ ≠ gb53001 ∧ k_ ≠ gb53015) (.slice (some ⟨go57, 0, none⟩) x5_1.length co22) x5_1 from (HO_5.out))
                 obtain ⟨ce61, hcl61, hM61, hcc61, hfr61⟩ := Kd.R_elem HX61.out z32 (ji16 : Int) (of_decide_eq_true (by assumption)) (by have h_ : (ji16 : Int) < ((x5_1.length : Int) : Int) := of_decide_eq_true (by assumption); first | exact h_ | (have e_ := (Kd.R_reads' HO_5.out).1; omega) | simpa using h_)
                 obtain rfl := k32_openM hM61
                 have HP61 := Kd.R_seg HX61.out (ji16 : Int) (of_decide_eq_true (by assumption)) (by have h_ : (ji16 : Int) < ((x5_1.length : Int) : Int) := of_decide_eq_true (by assumption); first | exact h_ | (have e_ := (Kd.R_reads' HO_5.out).1; omega) | simpa using h_) (seg := [.int .i64 ((rd_T32 x5_1 (ji16)).f0), .int .i64 (wrap64 (((rd_T32 x5_1 (ji16)).f1) + 1)), .bool ((wrap64 (x53002000_1 - t53016)) == (-1))]) (j := 0) hcl61 hcc61 (show 3 ≤ 3 from by decide) (x' := (⟨((rd_T32 x5_1 (ji16)).f0), wrap64 (((rd_T32 x5_1 (ji16)).f1) + 1), ((wrap64 (x53002000_1 - t53016)) == (-1))⟩ : S32)) (k32_mkM _ _ _ (⟨((rd_T32 x5_1 (ji16)).f0), wrap64 (((rd_T32 x5_1 (ji16)).f1) + 1), ((wrap64 (x53002000_1 - t53016)) == (-1))⟩ : S32) ) (fun _ hk => hk)
                 have hx61_0 := hcc61 0 _ rfl
                 (try simp only [show (k32).sz = 3 from rfl, Nat.mul_one, Nat.add_zero] at hx61_0)
                 have hf61_0 := hfr61 0
                 (try simp only [show (k32).sz = 3 from rfl, Nat.mul_one, Nat.add_zero] at hf61_0)
                 have hx61_1 := hcc61 1 _ rfl
                 (try simp only [show (k32).sz = 3 from rfl, Nat.mul_one, Nat.add_zero] at hx61_1)
                 have hf61_1 := hfr61 1
                 (try simp only [show (k32).sz = 3 from rfl, Nat.mul_one, Nat.add_zero] at hf61_1)
                 have hx61_2 := hcc61 2 _ rfl
                 (try simp only [show (k32).sz = 3 from rfl, Nat.mul_one, Nat.add_zero] at hx61_2)
                 have hf61_2 := hfr61 2
                 (try simp only [show (k32).sz = 3 from rfl, Nat.mul_one, Nat.add_zero] at hf61_2)
                 clear hcl61 hcc61 hfr61 hM61
                 go_wp2_with (first | ((with_reducible refine gate_store (t := 32) (p := 87) rfl ?_); refine store_event (t := 32) (p := 87) (v := ?vo_w62) (w1 := (((wc.setCell ⟨go57, (ji16 : Int).toNat * 3, none⟩ (.int .i64 ((rd_T32 x5_1 (ji16)).f0))).setCell ⟨go57, (ji16 : Int).toNat * 3 + 1, none⟩ (.int .i64 (wrap64 (((rd_T32 x5_1 (ji16)).f1) + 1)))).setCell ⟨go57, (ji16 : Int).toNat * 3 + 2, none⟩ (.bool ((wrap64 (x53002000_1 - t53016)) == (-1))))) ?hg ?ho ?hn ?hr ?_; (case ho => rfl); (case hg => rfl); (case hn => rfl); (case hr => first | (go_simp; done) | (go_simp; rfl)); intro w62 hw; have hg : wc.grownBy w62 (some go57) := (by rw [hw]; exact HP61.2); have hp_ : Kd.R k32 32 w62 w.heap.size (fun k_ => k_ ≠ gb53001 ∧ k_ ≠ gb53015) (.slice (some ⟨go57, 0, none⟩) x5_1.length co22) y53023 := (by rw [hw, Ny53023.out]; exact HP61.1); clear HP61; have n0_ := Aside0.mk (hp_); have n1_ := Aside0.mk (blk_grown (g := gb53001) (o := .cells #[.int .i64 x53002000_1, .int .i64 x53002001_1, .bool x53002002_1] 32 (0, 0)) (BK53001.out) hg (Kd.R_away HO_5.out (fun _ hk => hk.1))); have n2_ := Aside0.mk (blk_grown (g := gb53015) (o := .cells #[.int .i64 ((rd_T32 x5_1 (ji16)).f0), .int .i64 ((rd_T32 x5_1 (ji16)).f1), .bool ((rd_T32 x5_1 (ji16)).f2)] 32 (0, 0)) (BK53015.out) hg (Kd.R_away HO_5.out (fun _ hk => hk.2))); have n3_ := Aside0.mk ((by rw [hw]; exact below_set (below_set (below_set (HB.out) GB57.out) GB57.out) GB57.out : Below w.heap.size w w62)); clear HO_5; clear BK53001; clear BK53015; clear HB; have HO_5 := n0_; have BK53001 := n1_; have BK53015 := n2_; have HB := n3_; clear n0_ n1_ n2_ n3_; clear hg hw hp_; have hcz63_0 : w62.cell? ⟨gb53001, 0, none⟩ = some (.int .i64 x53002000_1) := (blk_cell BK53001.out 0).trans rfl; have hcz63_1 : w62.cell? ⟨gb53001, 1, none⟩ = some (.int .i64 x53002001_1) := (blk_cell BK53001.out 1).trans rfl; have hcz63_2 : w62.cell? ⟨gb53001, 2, none⟩ = some (.bool x53002002_1) := (blk_cell BK53001.out 2).trans rfl; have hfz63_0 := blk_frozen BK53001.out 0; have hfz63_1 := blk_frozen BK53001.out 1; have hfz63_2 := blk_frozen BK53001.out 2))
                 go_ret
                 exact ⟨_, by first | rfl | (simp [errW_none, errW_some] <;> rfl) | (simp only [← hji16]; first | rfl | (simp [errW_none, errW_some] <;> rfl)) | (simp [*, errW_none, errW_some] <;> rfl), by exact Kd.R_mono HO_5.out (fun _ hk => trivial), by repeat (first | exact HB.out | apply below_alloc | apply pw_below_drewN | apply below_drew1 | refine below_set ?_ GE53001.out | refine below_set ?_ GE53015.out)⟩
                ·rw [if_neg c58] at H
                 have c58b0 : (1 == x53002001_1) = false := beq_eq_false_iff_ne.mpr c58
                 have c58b1 : (1 != x53002001_1) = true := bne_iff_ne.mpr c58
                 replace H := Option.bind_eq_some_iff.mp H
                 obtain ⟨⟨t53024, t53025, t53026⟩, A640, H⟩ := H
                 replace H : (papermillref13_more.l0 kj47 y53023 t53024 t53025 t53026) = some r := H
                 have A64 := Aside0.mk A640
                 clear A640
                 have H' := Aside0.mk H
                 clear H
                 have hnb65 := NB53015_53001.out
                 have hnc65 := NB53001_53015.out
                 have hcz66_0 : wc.cell? ⟨gb53015, 0, none⟩ = some (.int .i64 ((rd_T32 x5_1 (ji16)).f0)) := (blk_cell BK53015.out 0).trans rfl
                 have hcz66_1 : wc.cell? ⟨gb53015, 1, none⟩ = some (.int .i64 ((rd_T32 x5_1 (ji16)).f1)) := (blk_cell BK53015.out 1).trans rfl
                 have hcz66_2 : wc.cell? ⟨gb53015, 2, none⟩ = some (.bool ((rd_T32 x5_1 (ji16)).f2)) := (blk_cell BK53015.out 2).trans rfl
                 have hfz66_0 := blk_frozen BK53015.out 0
                 have hfz66_1 := blk_frozen BK53015.out 1
                 have hfz66_2 := blk_frozen BK53015.out 2
                 have p57 : 0 ≤ (ji16 : Int) := of_decide_eq_true (by assumption)
                 have q57 : (ji16 : Int) < ((x5_1.length : Int) : Int) := of_decide_eq_true (by assumption)
                 obtain ⟨go57, co57, eo57, gb57, gl57, cl57, HG57⟩ := Kd.R_form HO_5.out (by omega)
                 (first | cases eo57 | (injection eo57 with ea_ en_ ec_; (first | subst ea_ | (injection ea_ with ea_; subst ea_)); subst ec_; clear en_))
                 have GB57 := Aside0.mk gb57
                 have GG57 := Aside0.mk HG57
                 clear gb57 gl57 HG57
                 obtain ⟨ce57, hcl57, hM57, hcc57, hfr57⟩ := Kd.R_elem HO_5.out z32 (ji16 : Int) p57 q57
                 obtain rfl := k32_openM hM57
                 have hx57_0 : wc.cell? ⟨go57, (ji16 : Int).toNat * 3, none⟩ = some (.int .i64 ((rd_T32 x5_1 ji16).f0)) := hcc57 0 _ rfl
                 have hx57_1 : wc.cell? ⟨go57, (ji16 : Int).toNat * 3 + 1, none⟩ = some (.int .i64 ((rd_T32 x5_1 ji16).f1)) := hcc57 1 _ rfl
                 have hx57_2 : wc.cell? ⟨go57, (ji16 : Int).toNat * 3 + 2, none⟩ = some (.bool ((rd_T32 x5_1 ji16).f2)) := hcc57 2 _ rfl
                 have hf57_0 : wc.frozen? ⟨go57, (ji16 : Int).toNat * 3, none⟩ = false := hfr57 0
                 have hf57_1 : wc.frozen? ⟨go57, (ji16 : Int).toNat * 3 + 1, none⟩ = false := hfr57 1
                 have hf57_2 : wc.frozen? ⟨go57, (ji16 : Int).toNat * 3 + 2, none⟩ = false := hfr57 2
                 clear hcl57 hcc57 hfr57 hM57
                 replace p57 := eq_true p57
                 replace q57 := eq_true q57
                 have HX67 := Aside0.mk (show Kd.R k32 32 wc w.heap.size (fun k_ => k_ ≠ gb53001 ∧ k_ ≠ gb53015) (.slice (some ⟨go57, 0, none⟩) x5_1.length co22) x5_1 from (HO_5.out))
                 obtain ⟨ce67, hcl67, hM67, hcc67, hfr67⟩ := Kd.R_elem HX67.out z32 (ji16 : Int) (of_decide_eq_true (by assumption)) (by have h_ : (ji16 : Int) < ((x5_1.length : Int) : Int) := of_decide_eq_true (by assumption); first | exact h_ | (have e_ := (Kd.R_reads' HO_5.out).1; omega) | simpa using h_)
                 obtain rfl := k32_openM hM67
                 have HP67 := Kd.R_seg HX67.out (ji16 : Int) (of_decide_eq_true (by assumption)) (by have h_ : (ji16 : Int) < ((x5_1.length : Int) : Int) := of_decide_eq_true (by assumption); first | exact h_ | (have e_ := (Kd.R_reads' HO_5.out).1; omega) | simpa using h_) (seg := [.int .i64 ((rd_T32 x5_1 (ji16)).f0), .int .i64 (wrap64 (((rd_T32 x5_1 (ji16)).f1) + 1)), .bool ((wrap64 (x53002000_1 - t53016)) == (-1))]) (j := 0) hcl67 hcc67 (show 3 ≤ 3 from by decide) (x' := (⟨((rd_T32 x5_1 (ji16)).f0), wrap64 (((rd_T32 x5_1 (ji16)).f1) + 1), ((wrap64 (x53002000_1 - t53016)) == (-1))⟩ : S32)) (k32_mkM _ _ _ (⟨((rd_T32 x5_1 (ji16)).f0), wrap64 (((rd_T32 x5_1 (ji16)).f1) + 1), ((wrap64 (x53002000_1 - t53016)) == (-1))⟩ : S32) ) (fun _ hk => hk)
                 have hx67_0 := hcc67 0 _ rfl
                 (try simp only [show (k32).sz = 3 from rfl, Nat.mul_one, Nat.add_zero] at hx67_0)
                 have hf67_0 := hfr67 0
                 (try simp only [show (k32).sz = 3 from rfl, Nat.mul_one, Nat.add_zero] at hf67_0)
                 have hx67_1 := hcc67 1 _ rfl
                 (try simp only [show (k32).sz = 3 from rfl, Nat.mul_one, Nat.add_zero] at hx67_1)
                 have hf67_1 := hfr67 1
                 (try simp only [show (k32).sz = 3 from rfl, Nat.mul_one, Nat.add_zero] at hf67_1)
                 have hx67_2 := hcc67 2 _ rfl
                 (try simp only [show (k32).sz = 3 from rfl, Nat.mul_one, Nat.add_zero] at hx67_2)
                 have hf67_2 := hfr67 2
                 (try simp only [show (k32).sz = 3 from rfl, Nat.mul_one, Nat.add_zero] at hf67_2)
                 clear hcl67 hcc67 hfr67 hM67
                 go_wp2_with (first | ((with_reducible refine gate_store (t := 32) (p := 87) rfl ?_); refine store_event (t := 32) (p := 87) (v := ?vo_w68) (w1 := (((wc.setCell ⟨go57, (ji16 : Int).toNat * 3, none⟩ (.int .i64 ((rd_T32 x5_1 (ji16)).f0))).setCell ⟨go57, (ji16 : Int).toNat * 3 + 1, none⟩ (.int .i64 (wrap64 (((rd_T32 x5_1 (ji16)).f1) + 1)))).setCell ⟨go57, (ji16 : Int).toNat * 3 + 2, none⟩ (.bool ((wrap64 (x53002000_1 - t53016)) == (-1))))) ?hg ?ho ?hn ?hr ?_; (case ho => rfl); (case hg => rfl); (case hn => rfl); (case hr => first | (go_simp; done) | (go_simp; rfl)); intro w68 hw; have hg : wc.grownBy w68 (some go57) := (by rw [hw]; exact HP67.2); have hp_ : Kd.R k32 32 w68 w.heap.size (fun k_ => k_ ≠ gb53001 ∧ k_ ≠ gb53015) (.slice (some ⟨go57, 0, none⟩) x5_1.length co22) y53023 := (by rw [hw, Ny53023.out]; exact HP67.1); clear HP67; have n0_ := Aside0.mk (hp_); have n1_ := Aside0.mk (blk_grown (g := gb53001) (o := .cells #[.int .i64 x53002000_1, .int .i64 x53002001_1, .bool x53002002_1] 32 (0, 0)) (BK53001.out) hg (Kd.R_away HO_5.out (fun _ hk => hk.1))); have n2_ := Aside0.mk (blk_grown (g := gb53015) (o := .cells #[.int .i64 ((rd_T32 x5_1 (ji16)).f0), .int .i64 ((rd_T32 x5_1 (ji16)).f1), .bool ((rd_T32 x5_1 (ji16)).f2)] 32 (0, 0)) (BK53015.out) hg (Kd.R_away HO_5.out (fun _ hk => hk.2))); have n3_ := Aside0.mk ((by rw [hw]; exact below_set (below_set (below_set (HB.out) GB57.out) GB57.out) GB57.out : Below w.heap.size w w68)); clear HO_5; clear BK53001; clear BK53015; clear HB; have HO_5 := n0_; have BK53001 := n1_; have BK53015 := n2_; have HB := n3_; clear n0_ n1_ n2_ n3_; clear hg hw hp_; have hcz69_0 : w68.cell? ⟨gb53001, 0, none⟩ = some (.int .i64 x53002000_1) := (blk_cell BK53001.out 0).trans rfl; have hcz69_1 : w68.cell? ⟨gb53001, 1, none⟩ = some (.int .i64 x53002001_1) := (blk_cell BK53001.out 1).trans rfl; have hcz69_2 : w68.cell? ⟨gb53001, 2, none⟩ = some (.bool x53002002_1) := (blk_cell BK53001.out 2).trans rfl; have hfz69_0 := blk_frozen BK53001.out 0; have hfz69_1 := blk_frozen BK53001.out 1; have hfz69_2 := blk_frozen BK53001.out 2) | ((with_reducible refine gate_callee (f := 64) rfl ?_); refine goesL_ (some 99) rfl rfl Try.func64 (by kernel_rfl) rfl #[.agg #[.int .i64 x53002000_1, .int .i64 x53002001_1, .bool x53002002_1], .int .i64 1, .int .i64 (wrap64 (x53002001_1 - 1))] rfl (by (try simp only [List.map_toArray, List.map_cons, List.map_nil]); first | done | rfl | (simp only [List.length_drop, List.length_take]; rfl)) ?_; (with_reducible refine (papermillref13_cut.calls x53002000_1 x53002001_1 x53002002_1 1 (wrap64 (x53002001_1 - 1)) t53024 t53025 t53026 _ A64.out).mono ?_); rintro e w70 ⟨rfl, hb⟩; refine ⟨_, rfl, ?_⟩; have n0_ := Aside0.mk (Kd.R_below (HO_5.out) hb); have n1_ := Aside0.mk (blk_below (g := gb53001) (o := .cells #[.int .i64 x53002000_1, .int .i64 x53002001_1, .bool x53002002_1] 32 (0, 0)) (BK53001.out) hb); have n2_ := Aside0.mk (blk_below (g := gb53015) (o := .cells #[.int .i64 ((rd_T32 x5_1 (ji16)).f0), .int .i64 ((rd_T32 x5_1 (ji16)).f1), .bool ((rd_T32 x5_1 (ji16)).f2)] 32 (0, 0)) (BK53015.out) hb); have n3_ := Aside0.mk (below_step (by repeat (first | exact HB.out | apply below_alloc | apply pw_below_drewN | apply below_drew1 | refine below_set ?_ GE53001.out | refine below_set ?_ GE53015.out)) hb); clear HO_5; clear BK53001; clear BK53015; clear HB; have HO_5 := n0_; have BK53001 := n1_; have BK53015 := n2_; have HB := n3_; clear n0_ n1_ n2_ n3_; (try clear hb); (try clear hb2); (try clear hk); (try clear hi); have hcz71_0 : w70.cell? ⟨gb53001, 0, none⟩ = some (.int .i64 x53002000_1) := (blk_cell BK53001.out 0).trans rfl; have hcz71_1 : w70.cell? ⟨gb53001, 1, none⟩ = some (.int .i64 x53002001_1) := (blk_cell BK53001.out 1).trans rfl; have hcz71_2 : w70.cell? ⟨gb53001, 2, none⟩ = some (.bool x53002002_1) := (blk_cell BK53001.out 2).trans rfl; have hfz71_0 := blk_frozen BK53001.out 0; have hfz71_1 := blk_frozen BK53001.out 1; have hfz71_2 := blk_frozen BK53001.out 2))
                 go_roundg kj47
                 case measure => have := HK1.out; have := HJ19.out; have := HJ47.out; omega
                 case rel => exact ⟨(y53023), (t53024), (t53025), (t53026), H', ⟨by have := HK1.out; have := HJ19.out; have := HJ47.out; omega⟩, ⟨by exact Kd.R_mono (Kd.R_far (p := ⟨gb53001, 2, none⟩) (Kd.R_far (p := ⟨gb53001, 1, none⟩) (Kd.R_far (p := ⟨gb53001, 0, none⟩) (Kd.R_mono HO_5.out (fun k_ hk => (⟨hk, hk.1⟩ : _ ∧ k_ ≠ gb53001))) (fun _ hk => hk.2) (.int .i64 t53024)) (fun _ hk => hk.2) (.int .i64 t53025)) (fun _ hk => hk.2) (.bool t53026)) (fun _ hk => hk.1.1)⟩, ⟨by refine blk_put (cs := #[.int .i64 t53024, .int .i64 t53025, .bool x53002002_1]) ?_ 2 _ rfl; refine blk_put (cs := #[.int .i64 t53024, .int .i64 x53002001_1, .bool x53002002_1]) ?_ 1 _ rfl; refine blk_put (cs := #[.int .i64 x53002000_1, .int .i64 x53002001_1, .bool x53002002_1]) ?_ 0 _ rfl; exact BK53001.out⟩, ⟨by repeat (first | exact HB.out | apply below_alloc | apply pw_below_drewN | apply below_drew1 | refine below_set ?_ GE53001.out | refine below_set ?_ GE53015.out)⟩⟩
               ·rw [if_neg c56] at H
                exact absurd H (by simp)
              ·rw [if_neg c55] at H
               exact absurd H (by simp)
             ·replace c54 := Bool.eq_false_iff.mpr c54
              subst c54
              have H1 : (if 0 ≤ ji16 then (if ji16 < (x5_1.length : Int) then ((some (x5_1.set (ji16 : Int).toNat (⟨((rd_T32 x5_1 (ji16)).f0), wrap64 (((rd_T32 x5_1 (ji16)).f1) + x53002001_1), ((wrap64 (x53002000_1 - t53016)) == (-1))⟩ : S32) : List (S32))).bind fun y53027 => (if x53002001_1 = x53002001_1 then (some y53027) else ((papermillref13_cut.f x53002000_1 x53002001_1 x53002002_1 x53002001_1 (wrap64 (x53002001_1 - x53002001_1))).bind fun bt53028 => (papermillref13_more.l0 kj47 y53027 bt53028.1 bt53028.2.1 bt53028.2.2)))) else (none)) else (none)) = some r := by rw [if_neg (show ¬ (false = true) by decide)] at H; first | exact H | simpa using H
              clear H
              have H := H1
              clear H1
              by_cases c72 : 0 ≤ ji16
              ·rw [if_pos c72] at H
               have c72b0 : decide (0 ≤ ji16) = true := decide_eq_true c72
               clear c72
               by_cases c73 : ji16 < (x5_1.length : Int)
               ·rw [if_pos c73] at H
                have c73b0 : decide (ji16 < (x5_1.length : Int)) = true := decide_eq_true c73
                clear c73
                obtain ⟨y53027, hy53027⟩ : ∃ y_ : List (S32), y_ = (x5_1.set (ji16 : Int).toNat (⟨((rd_T32 x5_1 (ji16)).f0), wrap64 (((rd_T32 x5_1 (ji16)).f1) + x53002001_1), ((wrap64 (x53002000_1 - t53016)) == (-1))⟩ : S32)) := ⟨_, rfl⟩
                replace H : (if x53002001_1 = x53002001_1 then (some y53027) else ((papermillref13_cut.f x53002000_1 x53002001_1 x53002002_1 x53002001_1 (wrap64 (x53002001_1 - x53002001_1))).bind fun bt53028 => (papermillref13_more.l0 kj47 y53027 bt53028.1 bt53028.2.1 bt53028.2.2))) = some r := by first | (rw [hy53027]; with_reducible exact H) | (have H2_ := (Option.bind_some _ _).symm.trans H; rw [hy53027]; with_reducible exact H2_) | (have H2_ := (Option.bind_some _ _).symm.trans H; with_reducible exact H2_) | with_reducible exact H | (rw [hy53027]; exact H) | exact H
                have Ny53027 := Aside0.mk hy53027
                clear hy53027
                by_cases c75 : x53002001_1 = x53002001_1
                ·rw [if_pos c75] at H
                 have c75b0 : (x53002001_1 == x53002001_1) = true := beq_iff_eq.mpr c75
                 have c75b1 : (x53002001_1 != x53002001_1) = false := bne_eq_false_iff_eq.mpr c75
                 clear c75
                 obtain rfl := Option.some.inj H
                 have hnb76 := NB53015_53001.out
                 have hnc76 := NB53001_53015.out
                 have hcz77_0 : wc.cell? ⟨gb53015, 0, none⟩ = some (.int .i64 ((rd_T32 x5_1 (ji16)).f0)) := (blk_cell BK53015.out 0).trans rfl
                 have hcz77_1 : wc.cell? ⟨gb53015, 1, none⟩ = some (.int .i64 ((rd_T32 x5_1 (ji16)).f1)) := (blk_cell BK53015.out 1).trans rfl
                 have hcz77_2 : wc.cell? ⟨gb53015, 2, none⟩ = some (.bool ((rd_T32 x5_1 (ji16)).f2)) := (blk_cell BK53015.out 2).trans rfl
                 have hfz77_0 := blk_frozen BK53015.out 0
                 have hfz77_1 := blk_frozen BK53015.out 1
                 have hfz77_2 := blk_frozen BK53015.out 2
                 have p74 : 0 ≤ (ji16 : Int) := of_decide_eq_true (by assumption)
                 have q74 : (ji16 : Int) < ((x5_1.length : Int) : Int) := of_decide_eq_true (by assumption)
                 obtain ⟨go74, co74, eo74, gb74, gl74, cl74, HG74⟩ := Kd.R_form HO_5.out (by omega)
                 (first | cases eo74 | (injection eo74 with ea_ en_ ec_; (first | subst ea_ | (injection ea_ with ea_; subst ea_)); subst ec_; clear en_))
                 have GB74 := Aside0.mk gb74
                 have GG74 := Aside0.mk HG74
                 clear gb74 gl74 HG74
                 obtain ⟨ce74, hcl74, hM74, hcc74, hfr74⟩ := Kd.R_elem HO_5.out z32 (ji16 : Int) p74 q74
                 obtain rfl := k32_openM hM74
                 have hx74_0 : wc.cell? ⟨go74, (ji16 : Int).toNat * 3, none⟩ = some (.int .i64 ((rd_T32 x5_1 ji16).f0)) := hcc74 0 _ rfl
                 have hx74_1 : wc.cell? ⟨go74, (ji16 : Int).toNat * 3 + 1, none⟩ = some (.int .i64 ((rd_T32 x5_1 ji16).f1)) := hcc74 1 _ rfl
                 have hx74_2 : wc.cell? ⟨go74, (ji16 : Int).toNat * 3 + 2, none⟩ = some (.bool ((rd_T32 x5_1 ji16).f2)) := hcc74 2 _ rfl
                 have hf74_0 : wc.frozen? ⟨go74, (ji16 : Int).toNat * 3, none⟩ = false := hfr74 0
                 have hf74_1 : wc.frozen? ⟨go74, (ji16 : Int).toNat * 3 + 1, none⟩ = false := hfr74 1
                 have hf74_2 : wc.frozen? ⟨go74, (ji16 : Int).toNat * 3 + 2, none⟩ = false := hfr74 2
                 clear hcl74 hcc74 hfr74 hM74
                 replace p74 := eq_true p74
                 replace q74 := eq_true q74
                 have HX78 := Aside0.mk (show Kd.R k32 32 wc w.heap.size (fun k_ => k_ ≠ gb53001 ∧ k_ ≠ gb53015) (.slice (some ⟨go74, 0, none⟩) x5_1.length co22) x5_1 from (HO_5.out))
                 obtain ⟨ce78, hcl78, hM78, hcc78, hfr78⟩ := Kd.R_elem HX78.out z32 (ji16 : Int) (of_decide_eq_true (by assumption)) (by have h_ : (ji16 : Int) < ((x5_1.length : Int) : Int) := of_decide_eq_true (by assumption); first | exact h_ | (have e_ := (Kd.R_reads' HO_5.out).1; omega) | simpa using h_)
                 obtain rfl := k32_openM hM78
                 have HP78 := Kd.R_seg HX78.out (ji16 : Int) (of_decide_eq_true (by assumption)) (by have h_ : (ji16 : Int) < ((x5_1.length : Int) : Int) := of_decide_eq_true (by assumption); first | exact h_ | (have e_ := (Kd.R_reads' HO_5.out).1; omega) | simpa using h_) (seg := [.int .i64 ((rd_T32 x5_1 (ji16)).f0), .int .i64 (wrap64 (((rd_T32 x5_1 (ji16)).f1) + x53002001_1)), .bool ((wrap64 (x53002000_1 - t53016)) == (-1))]) (j := 0) hcl78 hcc78 (show 3 ≤ 3 from by decide) (x' := (⟨((rd_T32 x5_1 (ji16)).f0), wrap64 (((rd_T32 x5_1 (ji16)).f1) + x53002001_1), ((wrap64 (x53002000_1 - t53016)) == (-1))⟩ : S32)) (k32_mkM _ _ _ (⟨((rd_T32 x5_1 (ji16)).f0), wrap64 (((rd_T32 x5_1 (ji16)).f1) + x53002001_1), ((wrap64 (x53002000_1 - t53016)) == (-1))⟩ : S32) ) (fun _ hk => hk)
                 have hx78_0 := hcc78 0 _ rfl
                 (try simp only [show (k32).sz = 3 from rfl, Nat.mul_one, Nat.add_zero] at hx78_0)
                 have hf78_0 := hfr78 0
                 (try simp only [show (k32).sz = 3 from rfl, Nat.mul_one, Nat.add_zero] at hf78_0)
                 have hx78_1 := hcc78 1 _ rfl
                 (try simp only [show (k32).sz = 3 from rfl, Nat.mul_one, Nat.add_zero] at hx78_1)
                 have hf78_1 := hfr78 1
                 (try simp only [show (k32).sz = 3 from rfl, Nat.mul_one, Nat.add_zero] at hf78_1)
                 have hx78_2 := hcc78 2 _ rfl
                 (try simp only [show (k32).sz = 3 from rfl, Nat.mul_one, Nat.add_zero] at hx78_2)
                 have hf78_2 := hfr78 2
                 (try simp only [show (k32).sz = 3 from rfl, Nat.mul_one, Nat.add_zero] at hf78_2)
                 clear hcl78 hcc78 hfr78 hM78
                 go_wp2_with (first | ((with_reducible refine gate_store (t := 32) (p := 87) rfl ?_); refine store_event (t := 32) (p := 87) (v := ?vo_w79) (w1 := (((wc.setCell ⟨go74, (ji16 : Int).toNat * 3, none⟩ (.int .i64 ((rd_T32 x5_1 (ji16)).f0))).setCell ⟨go74, (ji16 : Int).toNat * 3 + 1, none⟩ (.int .i64 (wrap64 (((rd_T32 x5_1 (ji16)).f1) + x53002001_1)))).setCell ⟨go74, (ji16 : Int).toNat * 3 + 2, none⟩ (.bool ((wrap64 (x53002000_1 - t53016)) == (-1))))) ?hg ?ho ?hn ?hr ?_; (case ho => rfl); (case hg => rfl); (case hn => rfl); (case hr => first | (go_simp; done) | (go_simp; rfl)); intro w79 hw; have hg : wc.grownBy w79 (some go74) := (by rw [hw]; exact HP78.2); have hp_ : Kd.R k32 32 w79 w.heap.size (fun k_ => k_ ≠ gb53001 ∧ k_ ≠ gb53015) (.slice (some ⟨go74, 0, none⟩) x5_1.length co22) y53027 := (by rw [hw, Ny53027.out]; exact HP78.1); clear HP78; have n0_ := Aside0.mk (hp_); have n1_ := Aside0.mk (blk_grown (g := gb53001) (o := .cells #[.int .i64 x53002000_1, .int .i64 x53002001_1, .bool x53002002_1] 32 (0, 0)) (BK53001.out) hg (Kd.R_away HO_5.out (fun _ hk => hk.1))); have n2_ := Aside0.mk (blk_grown (g := gb53015) (o := .cells #[.int .i64 ((rd_T32 x5_1 (ji16)).f0), .int .i64 ((rd_T32 x5_1 (ji16)).f1), .bool ((rd_T32 x5_1 (ji16)).f2)] 32 (0, 0)) (BK53015.out) hg (Kd.R_away HO_5.out (fun _ hk => hk.2))); have n3_ := Aside0.mk ((by rw [hw]; exact below_set (below_set (below_set (HB.out) GB74.out) GB74.out) GB74.out : Below w.heap.size w w79)); clear HO_5; clear BK53001; clear BK53015; clear HB; have HO_5 := n0_; have BK53001 := n1_; have BK53015 := n2_; have HB := n3_; clear n0_ n1_ n2_ n3_; clear hg hw hp_; have hcz80_0 : w79.cell? ⟨gb53001, 0, none⟩ = some (.int .i64 x53002000_1) := (blk_cell BK53001.out 0).trans rfl; have hcz80_1 : w79.cell? ⟨gb53001, 1, none⟩ = some (.int .i64 x53002001_1) := (blk_cell BK53001.out 1).trans rfl; have hcz80_2 : w79.cell? ⟨gb53001, 2, none⟩ = some (.bool x53002002_1) := (blk_cell BK53001.out 2).trans rfl; have hfz80_0 := blk_frozen BK53001.out 0; have hfz80_1 := blk_frozen BK53001.out 1; have hfz80_2 := blk_frozen BK53001.out 2))
                 go_ret
                 exact ⟨_, by first | rfl | (simp [errW_none, errW_some] <;> rfl) | (simp only [← hji16]; first | rfl | (simp [errW_none, errW_some] <;> rfl)) | (simp [*, errW_none, errW_some] <;> rfl), by exact Kd.R_mono HO_5.out (fun _ hk => trivial), by repeat (first | exact HB.out | apply below_alloc | apply pw_below_drewN | apply below_drew1 | refine below_set ?_ GE53001.out | refine below_set ?_ GE53015.out)⟩
                ·rw [if_neg c75] at H
                 exact absurd rfl c75
               ·rw [if_neg c73] at H
                exact absurd H (by simp)
              ·rw [if_neg c72] at H
               exact absurd H (by simp)
       ·rw [if_neg c18] at H
        exact absurd H (by simp)
      ·rw [if_neg c17] at H
       exact absurd H (by simp)
    ·rw [if_neg c8] at H
     have c8b0 : decide (0 < x53002001_1) = false := decide_eq_false c8
     clear c8
     obtain rfl := Option.some.inj H
     have hcz89_0 : wr.cell? ⟨gb53001, 0, none⟩ = some (.int .i64 x53002000_1) := (blk_cell BK53001.out 0).trans rfl
     have hcz89_1 : wr.cell? ⟨gb53001, 1, none⟩ = some (.int .i64 x53002001_1) := (blk_cell BK53001.out 1).trans rfl
     have hcz89_2 : wr.cell? ⟨gb53001, 2, none⟩ = some (.bool x53002002_1) := (blk_cell BK53001.out 2).trans rfl
     have hfz89_0 := blk_frozen BK53001.out 0
     have hfz89_1 := blk_frozen BK53001.out 1
     have hfz89_2 := blk_frozen BK53001.out 2
     go_wp2
     go_ret
     exact ⟨_, by first | rfl | (simp [errW_none, errW_some] <;> rfl) | (simp [*, errW_none, errW_some] <;> rfl), by exact Kd.R_mono HO_5.out (fun _ hk => trivial), by repeat (first | exact HB.out | apply below_alloc | apply pw_below_drewN | apply below_drew1 | refine below_set ?_ GE53001.out)⟩
 ·rw [if_neg c3] at H
  exact absurd H (by simp)

end Go.Proofs.Ytcnkmdonbpgjiaa.G

namespace Go.Proofs.Ytcnkmdonbpgjiaa.G
open Go.RowKit Go.Proofs.YtcnkmdonbpgjiaaW.PrintWords Go.Proofs.YtcnkmdonbpgjiaaW.PrintLast Go.Proofs.YtcnkmdonbpgjiaaW.PrintMore
attribute [local go_sem] max2_int min2_int max_two min_two max_three min_three max_four min_four   -- for this text's walks alone
set_option linter.unusedVariables false
set_option linter.unusedSimpArgs false

mutual
def papermillref13_Part.j0 : Nat → List (S32) → Bool → Int → Int → Option ((List (S32)) × Int)
 | 0, _, _, _, _ => none
 | k + 1, x0, x33, x38002000, x38002001 => if x33 = true then (some (([] : List (S32)), 1)) else (papermillref13_Part.l0 k x0 ([] : List (S32)) 0 0 x38002000 x38002001)
def papermillref13_Part.l0 : Nat → List (S32) → List (S32) → Int → Int → Int → Int → Option ((List (S32)) × Int)
 | 0, _, _, _, _, _, _ => none
 | k + 1, x0, x7, x8, x9, x38002000, x38002001 => if x9 < (x0.length : Int) then (if 0 ≤ x9 then (if (mx x38002000 x8) < (mn x38002001 (wrap64 (x8 + ((rd_T32 x0 x9).f1)))) then ((papermillref13_cut.f ((rd_T32 x0 x9).f0) ((rd_T32 x0 x9).f1) ((rd_T32 x0 x9).f2) (wrap64 ((mx x38002000 x8) - x8)) (wrap64 ((mn x38002001 (wrap64 (x8 + ((rd_T32 x0 x9).f1)))) - (mx x38002000 x8)))).bind fun bt38006 => ((papermillref13_more.f k x7 bt38006.1 bt38006.2.1 bt38006.2.2).bind fun t38009 => (papermillref13_Part.l0 k x0 t38009 (wrap64 (x8 + ((rd_T32 x0 x9).f1))) (wrap64 (x9 + 1)) x38002000 x38002001))) else (papermillref13_Part.l0 k x0 x7 (wrap64 (x8 + ((rd_T32 x0 x9).f1))) (wrap64 (x9 + 1)) x38002000 x38002001)) else (none)) else (some (x7, 0))
end
def papermillref13_Part.f (k : Nat) (l0 : List (S32)) (a1_0 : Int) (a1_1 : Int) : Option ((List (S32)) × Int) := (papermillref13_Check.f k l0).bind fun t38002 => (if t38002 = 0 then (if a1_0 < 0 then (papermillref13_Part.j0 k l0 true a1_0 a1_1) else (if a1_0 > a1_1 then (papermillref13_Part.j0 k l0 true a1_0 a1_1) else ((papermillref13_length.f k l0).bind fun t38003 => (papermillref13_Part.j0 k l0 (decide (a1_1 > t38003)) a1_0 a1_1)))) else (some (([] : List (S32)), t38002)))
theorem papermillref13_Part.mono_l : ∀ k, (∀ y0 y1 y2 y3, LeO (papermillref13_Part.j0 k y0 y1 y2 y3) (papermillref13_Part.j0 (k + 1) y0 y1 y2 y3)) ∧ (∀ y0 y1 y2 y3 y4 y5, LeO (papermillref13_Part.l0 k y0 y1 y2 y3 y4 y5) (papermillref13_Part.l0 (k + 1) y0 y1 y2 y3 y4 y5))
 | 0 => ⟨fun _ _ _ _ r h => by simp [papermillref13_Part.j0] at h, fun _ _ _ _ _ _ r h => by simp [papermillref13_Part.l0] at h⟩
 | k + 1 => by
  obtain ⟨ih0, ih1⟩ := papermillref13_Part.mono_l k
  refine ⟨?_, ?_⟩
  ·intro y0 y1 y2 y3
   unfold papermillref13_Part.j0
   repeat' first
   | (with_reducible exact ih0 _ _ _ _)
   | (with_reducible exact ih1 _ _ _ _ _ _)
   | (with_reducible exact papermillref13_Check.mono _ _)
   | (with_reducible exact papermillref13_length.mono _ _)
   | (with_reducible exact papermillref13_more.mono _ _ _ _ _)
   | (with_reducible exact LeO.refl _)
   | (with_reducible exact LeO.none _)
   | (with_reducible refine LeO.ite ?_ ?_)
   | (with_reducible refine LeO.bind ?_ (fun _ => ?_))
   | exact ih0 _ _ _ _
   | exact ih1 _ _ _ _ _ _
   | exact papermillref13_Check.mono _ _
   | exact papermillref13_length.mono _ _
   | exact papermillref13_more.mono _ _ _ _ _
   | exact LeO.none _
   | refine LeO.ite ?_ ?_
   | refine LeO.bind ?_ (fun _ => ?_)
  ·intro y0 y1 y2 y3 y4 y5
   unfold papermillref13_Part.l0
   repeat' first
   | (with_reducible exact ih0 _ _ _ _)
   | (with_reducible exact ih1 _ _ _ _ _ _)
   | (with_reducible exact papermillref13_Check.mono _ _)
   | (with_reducible exact papermillref13_length.mono _ _)
   | (with_reducible exact papermillref13_more.mono _ _ _ _ _)
   | (with_reducible exact LeO.refl _)
   | (with_reducible exact LeO.none _)
   | (with_reducible refine LeO.ite ?_ ?_)
   | (with_reducible refine LeO.bind ?_ (fun _ => ?_))
   | exact ih0 _ _ _ _
   | exact ih1 _ _ _ _ _ _
   | exact papermillref13_Check.mono _ _
   | exact papermillref13_length.mono _ _
   | exact papermillref13_more.mono _ _ _ _ _
   | exact LeO.none _
   | refine LeO.ite ?_ ?_
   | refine LeO.bind ?_ (fun _ => ?_)
theorem papermillref13_Part.mono : ∀ a0 a1 a2 k, LeO (papermillref13_Part.f k a0 a1 a2) (papermillref13_Part.f (k + 1) a0 a1 a2) := by
 intro a0 a1 a2 k
 obtain ⟨ih0, ih1⟩ := papermillref13_Part.mono_l k
 unfold papermillref13_Part.f
 repeat' first
   | (with_reducible exact ih0 _ _ _ _)
   | (with_reducible exact ih1 _ _ _ _ _ _)
   | (with_reducible exact papermillref13_Check.mono _ _)
   | (with_reducible exact papermillref13_length.mono _ _)
   | (with_reducible exact papermillref13_more.mono _ _ _ _ _)
   | (with_reducible exact LeO.refl _)
   | (with_reducible exact LeO.none _)
   | (with_reducible refine LeO.ite ?_ ?_)
   | (with_reducible refine LeO.bind ?_ (fun _ => ?_))
   | exact ih0 _ _ _ _
   | exact ih1 _ _ _ _ _ _
   | exact papermillref13_Check.mono _ _
   | exact papermillref13_length.mono _ _
   | exact papermillref13_more.mono _ _ _ _ _
   | exact LeO.none _
   | refine LeO.ite ?_ ?_
   | refine LeO.bind ?_ (fun _ => ?_)
set_option maxHeartbeats 8000000 in
set_option maxRecDepth 100000 in
theorem papermillref13_Part.calls (k : Nat) (A0 : Option Addr) (c0 : Nat) (l0 : List (S32)) (a1_0 : Int) (a1_1 : Int) (r1 : List (S32)) (r2 : Int) (w : World) (hr0 : Kd.C k32 w A0 l0.length l0) (hc0 : l0.length ≤ c0) (h : papermillref13_Part.f k l0 a1_0 a1_1 = some (r1, r2)) :
  Calls Try.prog 37 #[.slice A0 l0.length c0, .agg #[.int .i64 a1_0, .int .i64 a1_1]] w fun e w' => ∃ v0_ : Value, e = .returned (.tuple #[v0_, .int .i64 r2]) ∧ Kd.R k32 32 w' w.heap.size (fun _ => True) v0_ r1 ∧ Below w.heap.size w w' := by
 have hu37 := Try.underlying37
 have hu32 := Try.underlying32
 have HR0 := Aside0.mk hr0
 have HC0 := Aside0.mk hc0
 clear hr0 hc0
 have HB := Aside0.mk (Below.refl w.heap.size w)
 have H : ((papermillref13_Check.f k l0).bind fun t38002 => (if t38002 = 0 then (if a1_0 < 0 then (papermillref13_Part.j0 k l0 true a1_0 a1_1) else (if a1_0 > a1_1 then (papermillref13_Part.j0 k l0 true a1_0 a1_1) else ((papermillref13_length.f k l0).bind fun t38003 => (papermillref13_Part.j0 k l0 (decide (a1_1 > t38003)) a1_0 a1_1)))) else (some (([] : List (S32)), t38002)))) = some (r1, r2) := h
 clear h
 replace H := Option.bind_eq_some_iff.mp H
 obtain ⟨t38002, A30, H⟩ := H
 replace H : (if t38002 = 0 then (if a1_0 < 0 then (papermillref13_Part.j0 k l0 true a1_0 a1_1) else (if a1_0 > a1_1 then (papermillref13_Part.j0 k l0 true a1_0 a1_1) else ((papermillref13_length.f k l0).bind fun t38003 => (papermillref13_Part.j0 k l0 (decide (a1_1 > t38003)) a1_0 a1_1)))) else (some (([] : List (S32)), t38002))) = some (r1, r2) := H
 have A3 := Aside0.mk A30
 clear A30
 by_cases c4 : t38002 = 0
 ·rw [if_pos c4] at H
  have c4b0 : (t38002 == 0) = true := beq_iff_eq.mpr c4
  have c4b1 : (t38002 != 0) = false := bne_eq_false_iff_eq.mpr c4
  clear c4
  have HC5 := Aside0.mk H
  clear H
  go_enter Try.func37, Try.ntmps37
  go_upto_region 4 with (first | ((with_reducible refine gate_dst (N := 3) rfl ?_); refine box_event ?hg (N := 3) ?hd (cs := #[.int .i64 a1_0, .int .i64 a1_1]) (t := 37) ?hr ?_; (case hd => rfl); (case hg => rfl); (case hr => first | (go_simp; done) | (go_simp; rfl)); intro gb38001 hg w6 hbox hb; have n0_ := Aside0.mk (below_step (by repeat (first | exact HB.out | apply below_alloc | apply pw_below_drewN | apply below_drew1)) hb); have n1_ := Aside0.mk (hbox); have n2_ := Aside0.mk ((by rw [hg]; exact (below_size (by repeat (first | exact HB.out | apply below_alloc | apply pw_below_drewN | apply below_drew1))) : w.heap.size ≤ gb38001)); have n3_ := Aside0.mk ((by rw [hg]; exact (below_size (by repeat (first | exact HB.out | apply below_alloc | apply pw_below_drewN | apply below_drew1))) : w.heap.size ≤ gb38001)); clear HB; have HB := n0_; have BK38001 := n1_; have GW38001 := n2_; have GE38001 := n3_; clear n0_ n1_ n2_ n3_; clear hb hbox hg) | (go_at_call 15; (with_reducible refine (papermillref13_Check.calls k _ _ l0 t38002 _ ?side1 ?side2 A3.out).mono ?_); (case side1 => repeat (first | exact (Kd.C_below HR0.out HB.out) | (with_reducible refine Kd.C_alloc ?_ _) | (with_reducible refine Kd.C_drewN ?_ _) | (with_reducible refine Kd.C_drew ?_))); (case side2 => exact HC0.out); rintro e w7 ⟨rfl, hb⟩; have n0_ := Aside0.mk (blk_below (g := gb38001) (o := .cells #[.int .i64 a1_0, .int .i64 a1_1] 37 (0, 0)) (by (with_reducible repeat (first | refine blk_drewN ?_ _ | refine blk_drew ?_ | refine blk_alloc ?_ _)); exact BK38001.out) hb); have n1_ := Aside0.mk (below_step (by repeat (first | exact HB.out | apply below_alloc | apply pw_below_drewN | apply below_drew1 | refine below_set ?_ GE38001.out)) hb); clear BK38001; clear HB; have BK38001 := n0_; have HB := n1_; clear n0_ n1_; (try clear hb); (try clear hb2); (try clear hk); (try clear hi)))
  repeat (go_quiet (first | ((with_reducible refine gate_dst (N := 3) rfl ?_); refine box_event ?hg (N := 3) ?hd (cs := #[.int .i64 a1_0, .int .i64 a1_1]) (t := 37) ?hr ?_; (case hd => rfl); (case hg => rfl); (case hr => first | (go_simp; done) | (go_simp; rfl)); intro gb38001 hg w6 hbox hb; have n0_ := Aside0.mk (below_step (by repeat (first | exact HB.out | apply below_alloc | apply pw_below_drewN | apply below_drew1)) hb); have n1_ := Aside0.mk (hbox); have n2_ := Aside0.mk ((by rw [hg]; exact (below_size (by repeat (first | exact HB.out | apply below_alloc | apply pw_below_drewN | apply below_drew1))) : w.heap.size ≤ gb38001)); have n3_ := Aside0.mk ((by rw [hg]; exact (below_size (by repeat (first | exact HB.out | apply below_alloc | apply pw_below_drewN | apply below_drew1))) : w.heap.size ≤ gb38001)); clear HB; have HB := n0_; have BK38001 := n1_; have GW38001 := n2_; have GE38001 := n3_; clear n0_ n1_ n2_ n3_; clear hb hbox hg) | (go_at_call 15; (with_reducible refine (papermillref13_Check.calls k _ _ l0 t38002 _ ?side1 ?side2 A3.out).mono ?_); (case side1 => repeat (first | exact (Kd.C_below HR0.out HB.out) | (with_reducible refine Kd.C_alloc ?_ _) | (with_reducible refine Kd.C_drewN ?_ _) | (with_reducible refine Kd.C_drew ?_))); (case side2 => exact HC0.out); rintro e w7 ⟨rfl, hb⟩; have n0_ := Aside0.mk (blk_below (g := gb38001) (o := .cells #[.int .i64 a1_0, .int .i64 a1_1] 37 (0, 0)) (by (with_reducible repeat (first | refine blk_drewN ?_ _ | refine blk_drew ?_ | refine blk_alloc ?_ _)); exact BK38001.out) hb); have n1_ := Aside0.mk (below_step (by repeat (first | exact HB.out | apply below_alloc | apply pw_below_drewN | apply below_drew1 | refine below_set ?_ GE38001.out)) hb); clear BK38001; clear HB; have BK38001 := n0_; have HB := n1_; clear n0_ n1_; (try clear hb); (try clear hb2); (try clear hk); (try clear hi))); go_upto_region 4 with (first | ((with_reducible refine gate_dst (N := 3) rfl ?_); refine box_event ?hg (N := 3) ?hd (cs := #[.int .i64 a1_0, .int .i64 a1_1]) (t := 37) ?hr ?_; (case hd => rfl); (case hg => rfl); (case hr => first | (go_simp; done) | (go_simp; rfl)); intro gb38001 hg w6 hbox hb; have n0_ := Aside0.mk (below_step (by repeat (first | exact HB.out | apply below_alloc | apply pw_below_drewN | apply below_drew1)) hb); have n1_ := Aside0.mk (hbox); have n2_ := Aside0.mk ((by rw [hg]; exact (below_size (by repeat (first | exact HB.out | apply below_alloc | apply pw_below_drewN | apply below_drew1))) : w.heap.size ≤ gb38001)); have n3_ := Aside0.mk ((by rw [hg]; exact (below_size (by repeat (first | exact HB.out | apply below_alloc | apply pw_below_drewN | apply below_drew1))) : w.heap.size ≤ gb38001)); clear HB; have HB := n0_; have BK38001 := n1_; have GW38001 := n2_; have GE38001 := n3_; clear n0_ n1_ n2_ n3_; clear hb hbox hg) | (go_at_call 15; (with_reducible refine (papermillref13_Check.calls k _ _ l0 t38002 _ ?side1 ?side2 A3.out).mono ?_); (case side1 => repeat (first | exact (Kd.C_below HR0.out HB.out) | (with_reducible refine Kd.C_alloc ?_ _) | (with_reducible refine Kd.C_drewN ?_ _) | (with_reducible refine Kd.C_drew ?_))); (case side2 => exact HC0.out); rintro e w7 ⟨rfl, hb⟩; have n0_ := Aside0.mk (blk_below (g := gb38001) (o := .cells #[.int .i64 a1_0, .int .i64 a1_1] 37 (0, 0)) (by (with_reducible repeat (first | refine blk_drewN ?_ _ | refine blk_drew ?_ | refine blk_alloc ?_ _)); exact BK38001.out) hb); have n1_ := Aside0.mk (below_step (by repeat (first | exact HB.out | apply below_alloc | apply pw_below_drewN | apply below_drew1 | refine below_set ?_ GE38001.out)) hb); clear BK38001; clear HB; have BK38001 := n0_; have HB := n1_; clear n0_ n1_; (try clear hb); (try clear hb2); (try clear hk); (try clear hi))))
  (try simp only [Act.put, List.setIfInBounds_toArray, List.set_cons_zero, List.set_cons_succ])
  go_cut [33] (fun v33 wc => ∃ (kq : Nat) (x33_4 : Bool), v33 = .bool x33_4 ∧ Aside0 (papermillref13_Part.j0 kq l0 x33_4 a1_0 a1_1 = some (r1, r2)) ∧ Aside0 (kq ≤ k) ∧ Aside0 (wc.heap[gb38001]? = some (.cells #[.int .i64 a1_0, .int .i64 a1_1] 37 (0, 0))) ∧ Aside0 (Below w.heap.size w wc))
  case first =>
   have H := HC5.out
   clear HC5
   by_cases c8 : a1_0 < 0
   ·rw [if_pos c8] at H
    have c8b0 : decide (a1_0 < 0) = true := decide_eq_true c8
    clear c8
    (first | rw [c8b0] | (simp only [i64_w, i32_w]; rw [c8b0]) | skip)
    have H' := Aside0.mk H
    clear H
    have hcz9_0 : w7.cell? ⟨gb38001, 0, none⟩ = some (.int .i64 a1_0) := (blk_cell BK38001.out 0).trans rfl
    have hcz9_1 : w7.cell? ⟨gb38001, 1, none⟩ = some (.int .i64 a1_1) := (blk_cell BK38001.out 1).trans rfl
    have hfz9_0 := blk_frozen BK38001.out 0
    have hfz9_1 := blk_frozen BK38001.out 1
    go_wp2
    repeat (go_quiet (fail); try go_wp2)
    go_meet
    case rel => exact ⟨_, (true), (by first | rfl | (simp; done) | (simp [*]; done)), H', ⟨by first | omega | exact Nat.le_refl _⟩, ⟨by (with_reducible repeat (first | refine blk_drewN ?_ _ | refine blk_drew ?_ | refine blk_alloc ?_ _)); exact BK38001.out⟩, ⟨by repeat (first | exact HB.out | apply below_alloc | apply pw_below_drewN | apply below_drew1 | refine below_set ?_ GE38001.out)⟩⟩
   ·rw [if_neg c8] at H
    have c8b0 : decide (a1_0 < 0) = false := decide_eq_false c8
    clear c8
    (first | rw [c8b0] | (simp only [i64_w, i32_w]; rw [c8b0]) | skip)
    by_cases c10 : a1_0 > a1_1
    ·rw [if_pos c10] at H
     have c10b0 : decide (a1_1 < a1_0) = true := decide_eq_true c10
     clear c10
     have H' := Aside0.mk H
     clear H
     have hcz11_0 : w7.cell? ⟨gb38001, 0, none⟩ = some (.int .i64 a1_0) := (blk_cell BK38001.out 0).trans rfl
     have hcz11_1 : w7.cell? ⟨gb38001, 1, none⟩ = some (.int .i64 a1_1) := (blk_cell BK38001.out 1).trans rfl
     have hfz11_0 := blk_frozen BK38001.out 0
     have hfz11_1 := blk_frozen BK38001.out 1
     go_wp2
     repeat (go_quiet (fail); try go_wp2)
     go_meet
     case rel => exact ⟨_, (true), (by first | rfl | (simp; done) | (simp [*]; done)), H', ⟨by first | omega | exact Nat.le_refl _⟩, ⟨by (with_reducible repeat (first | refine blk_drewN ?_ _ | refine blk_drew ?_ | refine blk_alloc ?_ _)); exact BK38001.out⟩, ⟨by repeat (first | exact HB.out | apply below_alloc | apply pw_below_drewN | apply below_drew1 | refine below_set ?_ GE38001.out)⟩⟩
    ·rw [if_neg c10] at H
     have c10b0 : decide (a1_1 < a1_0) = false := decide_eq_false c10
     clear c10
     replace H := Option.bind_eq_some_iff.mp H
     obtain ⟨t38003, A120, H⟩ := H
     replace H : (papermillref13_Part.j0 k l0 (decide (a1_1 > t38003)) a1_0 a1_1) = some (r1, r2) := H
     have A12 := Aside0.mk A120
     clear A120
     have H' := Aside0.mk H
     clear H
     have hcz13_0 : w7.cell? ⟨gb38001, 0, none⟩ = some (.int .i64 a1_0) := (blk_cell BK38001.out 0).trans rfl
     have hcz13_1 : w7.cell? ⟨gb38001, 1, none⟩ = some (.int .i64 a1_1) := (blk_cell BK38001.out 1).trans rfl
     have hfz13_0 := blk_frozen BK38001.out 0
     have hfz13_1 := blk_frozen BK38001.out 1
     go_wp2_with (first | (go_at_call 42; (with_reducible refine (papermillref13_length.calls k _ _ l0 t38003 _ ?side1 ?side2 A12.out).mono ?_); (case side1 => repeat (first | exact (Kd.C_below HR0.out HB.out) | (with_reducible refine Kd.C_alloc ?_ _) | (with_reducible refine Kd.C_drewN ?_ _) | (with_reducible refine Kd.C_drew ?_))); (case side2 => exact HC0.out); rintro e w' ⟨rfl, ⟨nd, rfl⟩⟩; (try first | exact ⟨rfl, _, World.drewN_drewN _ _ _⟩ | exact ⟨rfl, _, Eq.trans (World.drewN_drewN _ _ _) (congrArg (World.drewN _) (Nat.add_assoc _ _ _))⟩)))
     repeat (go_quiet (first | (go_at_call 42; (with_reducible refine (papermillref13_length.calls k _ _ l0 t38003 _ ?side1 ?side2 A12.out).mono ?_); (case side1 => repeat (first | exact (Kd.C_below HR0.out HB.out) | (with_reducible refine Kd.C_alloc ?_ _) | (with_reducible refine Kd.C_drewN ?_ _) | (with_reducible refine Kd.C_drew ?_))); (case side2 => exact HC0.out); rintro e w' ⟨rfl, ⟨nd, rfl⟩⟩; (try first | exact ⟨rfl, _, World.drewN_drewN _ _ _⟩ | exact ⟨rfl, _, Eq.trans (World.drewN_drewN _ _ _) (congrArg (World.drewN _) (Nat.add_assoc _ _ _))⟩))); try go_wp2_with (first | (go_at_call 42; (with_reducible refine (papermillref13_length.calls k _ _ l0 t38003 _ ?side1 ?side2 A12.out).mono ?_); (case side1 => repeat (first | exact (Kd.C_below HR0.out HB.out) | (with_reducible refine Kd.C_alloc ?_ _) | (with_reducible refine Kd.C_drewN ?_ _) | (with_reducible refine Kd.C_drew ?_))); (case side2 => exact HC0.out); rintro e w' ⟨rfl, ⟨nd, rfl⟩⟩; (try first | exact ⟨rfl, _, World.drewN_drewN _ _ _⟩ | exact ⟨rfl, _, Eq.trans (World.drewN_drewN _ _ _) (congrArg (World.drewN _) (Nat.add_assoc _ _ _))⟩))))
     go_meet
     case rel => exact ⟨_, (decide (a1_1 > t38003)), (by first | rfl | (simp; done) | (simp [*]; done)), H', ⟨by first | omega | exact Nat.le_refl _⟩, ⟨by (with_reducible repeat (first | refine blk_drewN ?_ _ | refine blk_drew ?_ | refine blk_alloc ?_ _)); exact BK38001.out⟩, ⟨by repeat (first | exact HB.out | apply below_alloc | apply pw_below_drewN | apply below_drew1 | refine below_set ?_ GE38001.out)⟩⟩
  case rest =>
   clear HC5
   try clear c1
   try clear p2
   try clear c3
   try clear c4
   try clear c4b0
   try clear c4b1
   try clear c8
   try clear c8b0
   try clear c10
   try clear c10b0
   try clear hcz11_0
   try clear hcz11_1
   try clear hcz13_0
   try clear hcz13_1
   try clear hcz9_0
   try clear hcz9_1
   try clear hfz11_0
   try clear hfz11_1
   try clear hfz13_0
   try clear hfz13_1
   try clear hfz9_0
   try clear hfz9_1
   obtain ⟨kq, x33_4, rfl, HA, HJ4, BK38001, HB⟩ := hcut
   cases kq with
   | zero => exact absurd HA.out (by simp [papermillref13_Part.j0])
   | succ kj4 =>
    have H := HA.out
    clear HA
    simp only [papermillref13_Part.j0] at H
    by_cases c14 : x33_4 = true
    ·subst c14
     have H1 : (some (([] : List (S32)), 1)) = some (r1, r2) := by rw [if_pos rfl] at H; exact H
     clear H
     have H := H1
     clear H1
     simp only [Option.some.injEq, Prod.mk.injEq] at H
     obtain ⟨rfl, rfl⟩ := H
     go_wp2
     repeat (go_quiet (fail); try go_wp2)
     go_ret2
     exact ⟨_, by first | rfl | (simp [errW_none, errW_some] <;> rfl) | (simp [*, errW_none, errW_some] <;> rfl), by first | exact Kd.R_nil _ _ _ _ _ | exact Kd.N_nil _ _ _ _ _ | exact Kd.V_nil _ _ _ _ _ | exact Kd.Q_nil _ _ _ _ _ | exact Kd.S_nil _ _ _ _ _, by repeat (first | exact HB.out | apply below_alloc | apply pw_below_drewN | apply below_drew1 | refine below_set ?_ GE38001.out)⟩
    ·replace c14 := Bool.eq_false_iff.mpr c14
     subst c14
     have H1 : (papermillref13_Part.l0 kj4 l0 ([] : List (S32)) 0 0 a1_0 a1_1) = some (r1, r2) := by rw [if_neg (show ¬ (false = true) by decide)] at H; first | exact H | simpa using H
     clear H
     have H := H1
     clear H1
     have H' := Aside0.mk H
     clear H
     go_wp2
     repeat (go_quiet (fail); try go_wp2)
     go_loopg [7, 8, 9] kj4 (fun kq v7 v8 v9 w' => ∃ (x7_2 : List (S32)) (x8_2 : Int) (x9_2 : Int), v8 = .int .i64 x8_2 ∧ v9 = .int .i64 x9_2 ∧ Aside0 (papermillref13_Part.l0 kq l0 x7_2 x8_2 x9_2 a1_0 a1_1 = some (r1, r2)) ∧ Aside0 (kq ≤ kj4) ∧ Aside0 (Kd.R k32 32 w' w.heap.size (fun _ => True) v7 x7_2) ∧ Aside0 (w'.heap[gb38001]? = some (.cells #[.int .i64 a1_0, .int .i64 a1_1] 37 (0, 0))) ∧ Aside0 (Below w.heap.size w w'))
     case atStart => exact ⟨(([] : List (S32))), (0), (0), (by first | rfl | (simp; done) | (simp [*]; done)), (by first | rfl | (simp; done) | (simp [*]; done)), H', ⟨Nat.le_refl _⟩, ⟨by first | exact Kd.R_nil _ _ _ _ _ | exact Kd.N_nil _ _ _ _ _ | exact Kd.V_nil _ _ _ _ _ | exact Kd.Q_nil _ _ _ _ _ | exact Kd.S_nil _ _ _ _ _⟩, ⟨by (with_reducible repeat (first | refine blk_drewN ?_ _ | refine blk_drew ?_ | refine blk_alloc ?_ _)); exact BK38001.out⟩, ⟨by repeat (first | exact HB.out | apply below_alloc | apply pw_below_drewN | apply below_drew1 | refine below_set ?_ GE38001.out)⟩⟩
     case round =>
      clear H'
      try clear c1
      try clear p2
      try clear c3
      try clear c4
      try clear c4b0
      try clear c4b1
      try clear c8
      try clear c8b0
      try clear c10
      try clear c10b0
      try clear c14
      try clear hcz11_0
      try clear hcz11_1
      try clear hcz13_0
      try clear hcz13_1
      try clear hcz9_0
      try clear hcz9_1
      try clear hfz11_0
      try clear hfz11_1
      try clear hfz13_0
      try clear hfz13_1
      try clear hfz9_0
      try clear hfz9_1
      try clear p2
      obtain ⟨x7_2, x8_2, x9_2, rfl, rfl, HA, HK2, HO_7, BK38001, HB⟩ := hrel
      cases gk with
      | zero => exact absurd HA.out (by simp [papermillref13_Part.l0])
      | succ k2 =>
       have H := HA.out
       clear HA
       simp only [papermillref13_Part.l0] at H
       by_cases c15 : x9_2 < (l0.length : Int)
       ·rw [if_pos c15] at H
        have c15b0 : decide (x9_2 < (l0.length : Int)) = true := decide_eq_true c15
        clear c15
        obtain ⟨ji16, hji16⟩ : ∃ j_ : Int, (mx a1_0 x8_2) = j_ := ⟨_, rfl⟩
        replace H : (if 0 ≤ x9_2 then (if (ji16) < (mn a1_1 (wrap64 (x8_2 + ((rd_T32 l0 x9_2).f1)))) then ((papermillref13_cut.f ((rd_T32 l0 x9_2).f0) ((rd_T32 l0 x9_2).f1) ((rd_T32 l0 x9_2).f2) (wrap64 ((ji16) - x8_2)) (wrap64 ((mn a1_1 (wrap64 (x8_2 + ((rd_T32 l0 x9_2).f1)))) - (ji16)))).bind fun bt38006 => ((papermillref13_more.f k2 x7_2 bt38006.1 bt38006.2.1 bt38006.2.2).bind fun t38009 => (papermillref13_Part.l0 k2 l0 t38009 (wrap64 (x8_2 + ((rd_T32 l0 x9_2).f1))) (wrap64 (x9_2 + 1)) a1_0 a1_1))) else (papermillref13_Part.l0 k2 l0 x7_2 (wrap64 (x8_2 + ((rd_T32 l0 x9_2).f1))) (wrap64 (x9_2 + 1)) a1_0 a1_1)) else (none)) = some (r1, r2) := by first | (rw [hji16] at H; exact H) | (simp only [hji16] at H ⊢; exact H)
        have hji16_ : (if a1_0 < x8_2 then x8_2 else a1_0) = ji16 := hji16
        by_cases c17 : 0 ≤ x9_2
        ·rw [if_pos c17] at H
         have c17b0 : decide (0 ≤ x9_2) = true := decide_eq_true c17
         clear c17
         obtain ⟨ji18, hji18⟩ : ∃ j_ : Int, (mn a1_1 (wrap64 (x8_2 + ((rd_T32 l0 x9_2).f1)))) = j_ := ⟨_, rfl⟩
         replace H : (if (ji16) < (ji18) then ((papermillref13_cut.f ((rd_T32 l0 x9_2).f0) ((rd_T32 l0 x9_2).f1) ((rd_T32 l0 x9_2).f2) (wrap64 ((ji16) - x8_2)) (wrap64 ((ji18) - (ji16)))).bind fun bt38006 => ((papermillref13_more.f k2 x7_2 bt38006.1 bt38006.2.1 bt38006.2.2).bind fun t38009 => (papermillref13_Part.l0 k2 l0 t38009 (wrap64 (x8_2 + ((rd_T32 l0 x9_2).f1))) (wrap64 (x9_2 + 1)) a1_0 a1_1))) else (papermillref13_Part.l0 k2 l0 x7_2 (wrap64 (x8_2 + ((rd_T32 l0 x9_2).f1))) (wrap64 (x9_2 + 1)) a1_0 a1_1)) = some (r1, r2) := by first | (rw [hji18] at H; exact H) | (simp only [hji18] at H ⊢; exact H)
         have hji18_ : (if (wrap64 (x8_2 + ((rd_T32 l0 x9_2).f1))) < a1_1 then (wrap64 (x8_2 + ((rd_T32 l0 x9_2).f1))) else a1_1) = ji18 := hji18
         by_cases c19 : (ji16) < (ji18)
         ·rw [if_pos c19] at H
          have c19b0 : decide ((ji16) < (ji18)) = true := decide_eq_true c19
          clear c19
          replace H := Option.bind_eq_some_iff.mp H
          obtain ⟨⟨t38006, t38007, t38008⟩, A200, H⟩ := H
          replace H : ((papermillref13_more.f k2 x7_2 t38006 t38007 t38008).bind fun t38009 => (papermillref13_Part.l0 k2 l0 t38009 (wrap64 (x8_2 + ((rd_T32 l0 x9_2).f1))) (wrap64 (x9_2 + 1)) a1_0 a1_1)) = some (r1, r2) := H
          have A20 := Aside0.mk A200
          clear A200
          replace H := Option.bind_eq_some_iff.mp H
          obtain ⟨t38009, A210, H⟩ := H
          replace H : (papermillref13_Part.l0 k2 l0 t38009 (wrap64 (x8_2 + ((rd_T32 l0 x9_2).f1))) (wrap64 (x9_2 + 1)) a1_0 a1_1) = some (r1, r2) := H
          have A21 := Aside0.mk A210
          clear A210
          have H' := Aside0.mk H
          clear H
          have hcz22_0 : wr.cell? ⟨gb38001, 0, none⟩ = some (.int .i64 a1_0) := (blk_cell BK38001.out 0).trans rfl
          have hcz22_1 : wr.cell? ⟨gb38001, 1, none⟩ = some (.int .i64 a1_1) := (blk_cell BK38001.out 1).trans rfl
          have hfz22_0 := blk_frozen BK38001.out 0
          have hfz22_1 := blk_frozen BK38001.out 1
          have p38004 : 0 ≤ (x9_2 : Int) := of_decide_eq_true (by assumption)
          have q38004 : x9_2 < (l0.length : Int) := of_decide_eq_true (by assumption)
          obtain ⟨ad38004, e38004, hx38004_0, hx38004_1, hx38004_2⟩ := at_T32 HR0.out x9_2 p38004 q38004
          cases e38004
          replace hx38004_0 := (HB.out.cell (World.block_lt_of_cell? w _ hx38004_0)).trans hx38004_0
          replace hx38004_1 := (HB.out.cell (World.block_lt_of_cell? w _ hx38004_1)).trans hx38004_1
          replace hx38004_2 := (HB.out.cell (World.block_lt_of_cell? w _ hx38004_2)).trans hx38004_2
          replace p38004 := eq_true p38004
          replace q38004 := eq_true q38004
          have p38005 : 0 ≤ (x9_2 : Int) := of_decide_eq_true (by assumption)
          have q38005 : x9_2 < (l0.length : Int) := of_decide_eq_true (by assumption)
          obtain ⟨ad38005, e38005, hx38005_0, hx38005_1, hx38005_2⟩ := at_T32 HR0.out x9_2 p38005 q38005
          obtain rfl : ad38004 = ad38005 := (by injection e38005)
          replace hx38005_0 := (HB.out.cell (World.block_lt_of_cell? w _ hx38005_0)).trans hx38005_0
          replace hx38005_1 := (HB.out.cell (World.block_lt_of_cell? w _ hx38005_1)).trans hx38005_1
          replace hx38005_2 := (HB.out.cell (World.block_lt_of_cell? w _ hx38005_2)).trans hx38005_2
          replace p38005 := eq_true p38005
          replace q38005 := eq_true q38005
          go_wp2_with (first | (go_at_call 64; (with_reducible refine (papermillref13_cut.calls ((rd_T32 l0 x9_2).f0) ((rd_T32 l0 x9_2).f1) ((rd_T32 l0 x9_2).f2) (wrap64 ((ji16) - x8_2)) (wrap64 ((ji18) - (ji16))) t38006 t38007 t38008 _ A20.out).mono ?_); rintro e w23 ⟨rfl, hb⟩; have n0_ := Aside0.mk (Kd.R_below (by (with_reducible repeat (first | apply Kd.R_alloc | apply Kd.R_drewN | apply Kd.R_drew)); exact HO_7.out) hb); have n1_ := Aside0.mk (blk_below (g := gb38001) (o := .cells #[.int .i64 a1_0, .int .i64 a1_1] 37 (0, 0)) (by (with_reducible repeat (first | refine blk_drewN ?_ _ | refine blk_drew ?_ | refine blk_alloc ?_ _)); exact BK38001.out) hb); have n2_ := Aside0.mk (below_step (by repeat (first | exact HB.out | apply below_alloc | apply pw_below_drewN | apply below_drew1 | refine below_set ?_ GE38001.out)) hb); clear HO_7; clear BK38001; clear HB; have HO_7 := n0_; have BK38001 := n1_; have HB := n2_; clear n0_ n1_ n2_; (try clear hb); (try clear hb2); (try clear hk); (try clear hi); obtain ⟨Ao24, co24, eo24⟩ := Kd.R_slice HO_7.out; subst eo24) | (go_at_call 52; (with_reducible refine (papermillref13_more.calls k2 _ _ x7_2 t38006 t38007 t38008 t38009 _ ?side1 ?side2 A21.out).mono ?_); (case side1 => repeat (first | exact (Kd.R_reads' HO_7.out).2.2 | (with_reducible refine Kd.C_alloc ?_ _) | (with_reducible refine Kd.C_drewN ?_ _) | (with_reducible refine Kd.C_drew ?_))); (case side2 => exact (Kd.R_reads' HO_7.out).2.1); rintro e w25 ⟨v38010, rfl, ho0, hb⟩; have n0_ := Aside0.mk (Kd.R_elder' (by (with_reducible repeat (first | apply Kd.R_alloc | apply Kd.R_drewN | apply Kd.R_drew)); exact HO_7.out) (Kd.R_base ho0) hb); have n1_ := Aside0.mk (Kd.R_lower (Kd.R_new' ho0 (Kd.R_lt (by (with_reducible repeat (first | apply Kd.R_alloc | apply Kd.R_drewN | apply Kd.R_drew)); exact HO_7.out))) (below_size (by repeat (first | exact HB.out | apply below_alloc | apply pw_below_drewN | apply below_drew1 | refine below_set ?_ GE38001.out)))); have n2_ := Aside0.mk (blk_below (g := gb38001) (o := .cells #[.int .i64 a1_0, .int .i64 a1_1] 37 (0, 0)) (by (with_reducible repeat (first | refine blk_drewN ?_ _ | refine blk_drew ?_ | refine blk_alloc ?_ _)); exact BK38001.out) hb); have n3_ := Aside0.mk (below_step (by repeat (first | exact HB.out | apply below_alloc | apply pw_below_drewN | apply below_drew1 | refine below_set ?_ GE38001.out)) hb); clear HO_7; clear BK38001; clear HB; have HO_7 := n0_; have HO38011 := n1_; have BK38001 := n2_; have HB := n3_; clear n0_ n1_ n2_ n3_; (try clear hb); (try clear hb2); (try clear hk); (try clear hi); (try clear ho0); have p38012 : 0 ≤ (x9_2 : Int) := of_decide_eq_true (by assumption); have q38012 : x9_2 < (l0.length : Int) := of_decide_eq_true (by assumption); obtain ⟨ad38012, e38012, hx38012_0, hx38012_1, hx38012_2⟩ := at_T32 HR0.out x9_2 p38012 q38012; obtain rfl : ad38004 = ad38012 := (by injection e38012); replace hx38012_0 := (HB.out.cell (World.block_lt_of_cell? w _ hx38012_0)).trans hx38012_0; replace hx38012_1 := (HB.out.cell (World.block_lt_of_cell? w _ hx38012_1)).trans hx38012_1; replace hx38012_2 := (HB.out.cell (World.block_lt_of_cell? w _ hx38012_2)).trans hx38012_2; replace p38012 := eq_true p38012; replace q38012 := eq_true q38012))
          repeat (go_quiet (first | (go_at_call 64; (with_reducible refine (papermillref13_cut.calls ((rd_T32 l0 x9_2).f0) ((rd_T32 l0 x9_2).f1) ((rd_T32 l0 x9_2).f2) (wrap64 ((ji16) - x8_2)) (wrap64 ((ji18) - (ji16))) t38006 t38007 t38008 _ A20.out).mono ?_); rintro e w23 ⟨rfl, hb⟩; have n0_ := Aside0.mk (Kd.R_below (by (with_reducible repeat (first | apply Kd.R_alloc | apply Kd.R_drewN | apply Kd.R_drew)); exact HO_7.out) hb); have n1_ := Aside0.mk (blk_below (g := gb38001) (o := .cells #[.int .i64 a1_0, .int .i64 a1_1] 37 (0, 0)) (by (with_reducible repeat (first | refine blk_drewN ?_ _ | refine blk_drew ?_ | refine blk_alloc ?_ _)); exact BK38001.out) hb); have n2_ := Aside0.mk (below_step (by repeat (first | exact HB.out | apply below_alloc | apply pw_below_drewN | apply below_drew1 | refine below_set ?_ GE38001.out)) hb); clear HO_7; clear BK38001; clear HB; have HO_7 := n0_; have BK38001 := n1_; have HB := n2_; clear n0_ n1_ n2_; (try clear hb); (try clear hb2); (try clear hk); (try clear hi); obtain ⟨Ao24, co24, eo24⟩ := Kd.R_slice HO_7.out; subst eo24) | (go_at_call 52; (with_reducible refine (papermillref13_more.calls k2 _ _ x7_2 t38006 t38007 t38008 t38009 _ ?side1 ?side2 A21.out).mono ?_); (case side1 => repeat (first | exact (Kd.R_reads' HO_7.out).2.2 | (with_reducible refine Kd.C_alloc ?_ _) | (with_reducible refine Kd.C_drewN ?_ _) | (with_reducible refine Kd.C_drew ?_))); (case side2 => exact (Kd.R_reads' HO_7.out).2.1); rintro e w25 ⟨v38010, rfl, ho0, hb⟩; have n0_ := Aside0.mk (Kd.R_elder' (by (with_reducible repeat (first | apply Kd.R_alloc | apply Kd.R_drewN | apply Kd.R_drew)); exact HO_7.out) (Kd.R_base ho0) hb); have n1_ := Aside0.mk (Kd.R_lower (Kd.R_new' ho0 (Kd.R_lt (by (with_reducible repeat (first | apply Kd.R_alloc | apply Kd.R_drewN | apply Kd.R_drew)); exact HO_7.out))) (below_size (by repeat (first | exact HB.out | apply below_alloc | apply pw_below_drewN | apply below_drew1 | refine below_set ?_ GE38001.out)))); have n2_ := Aside0.mk (blk_below (g := gb38001) (o := .cells #[.int .i64 a1_0, .int .i64 a1_1] 37 (0, 0)) (by (with_reducible repeat (first | refine blk_drewN ?_ _ | refine blk_drew ?_ | refine blk_alloc ?_ _)); exact BK38001.out) hb); have n3_ := Aside0.mk (below_step (by repeat (first | exact HB.out | apply below_alloc | apply pw_below_drewN | apply below_drew1 | refine below_set ?_ GE38001.out)) hb); clear HO_7; clear BK38001; clear HB; have HO_7 := n0_; have HO38011 := n1_; have BK38001 := n2_; have HB := n3_; clear n0_ n1_ n2_ n3_; (try clear hb); (try clear hb2); (try clear hk); (try clear hi); (try clear ho0); have p38012 : 0 ≤ (x9_2 : Int) := of_decide_eq_true (by assumption); have q38012 : x9_2 < (l0.length : Int) := of_decide_eq_true (by assumption); obtain ⟨ad38012, e38012, hx38012_0, hx38012_1, hx38012_2⟩ := at_T32 HR0.out x9_2 p38012 q38012; obtain rfl : ad38004 = ad38012 := (by injection e38012); replace hx38012_0 := (HB.out.cell (World.block_lt_of_cell? w _ hx38012_0)).trans hx38012_0; replace hx38012_1 := (HB.out.cell (World.block_lt_of_cell? w _ hx38012_1)).trans hx38012_1; replace hx38012_2 := (HB.out.cell (World.block_lt_of_cell? w _ hx38012_2)).trans hx38012_2; replace p38012 := eq_true p38012; replace q38012 := eq_true q38012)); try go_wp2_with (first | (go_at_call 64; (with_reducible refine (papermillref13_cut.calls ((rd_T32 l0 x9_2).f0) ((rd_T32 l0 x9_2).f1) ((rd_T32 l0 x9_2).f2) (wrap64 ((ji16) - x8_2)) (wrap64 ((ji18) - (ji16))) t38006 t38007 t38008 _ A20.out).mono ?_); rintro e w23 ⟨rfl, hb⟩; have n0_ := Aside0.mk (Kd.R_below (by (with_reducible repeat (first | apply Kd.R_alloc | apply Kd.R_drewN | apply Kd.R_drew)); exact HO_7.out) hb); have n1_ := Aside0.mk (blk_below (g := gb38001) (o := .cells #[.int .i64 a1_0, .int .i64 a1_1] 37 (0, 0)) (by (with_reducible repeat (first | refine blk_drewN ?_ _ | refine blk_drew ?_ | refine blk_alloc ?_ _)); exact BK38001.out) hb); have n2_ := Aside0.mk (below_step (by repeat (first | exact HB.out | apply below_alloc | apply pw_below_drewN | apply below_drew1 | refine below_set ?_ GE38001.out)) hb); clear HO_7; clear BK38001; clear HB; have HO_7 := n0_; have BK38001 := n1_; have HB := n2_; clear n0_ n1_ n2_; (try clear hb); (try clear hb2); (try clear hk); (try clear hi); obtain ⟨Ao24, co24, eo24⟩ := Kd.R_slice HO_7.out; subst eo24) | (go_at_call 52; (with_reducible refine (papermillref13_more.calls k2 _ _ x7_2 t38006 t38007 t38008 t38009 _ ?side1 ?side2 A21.out).mono ?_); (case side1 => repeat (first | exact (Kd.R_reads' HO_7.out).2.2 | (with_reducible refine Kd.C_alloc ?_ _) | (with_reducible refine Kd.C_drewN ?_ _) | (with_reducible refine Kd.C_drew ?_))); (case side2 => exact (Kd.R_reads' HO_7.out).2.1); rintro e w25 ⟨v38010, rfl, ho0, hb⟩; have n0_ := Aside0.mk (Kd.R_elder' (by (with_reducible repeat (first | apply Kd.R_alloc | apply Kd.R_drewN | apply Kd.R_drew)); exact HO_7.out) (Kd.R_base ho0) hb); have n1_ := Aside0.mk (Kd.R_lower (Kd.R_new' ho0 (Kd.R_lt (by (with_reducible repeat (first | apply Kd.R_alloc | apply Kd.R_drewN | apply Kd.R_drew)); exact HO_7.out))) (below_size (by repeat (first | exact HB.out | apply below_alloc | apply pw_below_drewN | apply below_drew1 | refine below_set ?_ GE38001.out)))); have n2_ := Aside0.mk (blk_below (g := gb38001) (o := .cells #[.int .i64 a1_0, .int .i64 a1_1] 37 (0, 0)) (by (with_reducible repeat (first | refine blk_drewN ?_ _ | refine blk_drew ?_ | refine blk_alloc ?_ _)); exact BK38001.out) hb); have n3_ := Aside0.mk (below_step (by repeat (first | exact HB.out | apply below_alloc | apply pw_below_drewN | apply below_drew1 | refine below_set ?_ GE38001.out)) hb); clear HO_7; clear BK38001; clear HB; have HO_7 := n0_; have HO38011 := n1_; have BK38001 := n2_; have HB := n3_; clear n0_ n1_ n2_ n3_; (try clear hb); (try clear hb2); (try clear hk); (try clear hi); (try clear ho0); have p38012 : 0 ≤ (x9_2 : Int) := of_decide_eq_true (by assumption); have q38012 : x9_2 < (l0.length : Int) := of_decide_eq_true (by assumption); obtain ⟨ad38012, e38012, hx38012_0, hx38012_1, hx38012_2⟩ := at_T32 HR0.out x9_2 p38012 q38012; obtain rfl : ad38004 = ad38012 := (by injection e38012); replace hx38012_0 := (HB.out.cell (World.block_lt_of_cell? w _ hx38012_0)).trans hx38012_0; replace hx38012_1 := (HB.out.cell (World.block_lt_of_cell? w _ hx38012_1)).trans hx38012_1; replace hx38012_2 := (HB.out.cell (World.block_lt_of_cell? w _ hx38012_2)).trans hx38012_2; replace p38012 := eq_true p38012; replace q38012 := eq_true q38012)))
          go_roundg k2
          case measure => have := HJ4.out; have := HK2.out; omega
          case rel => exact ⟨(t38009), (wrap64 (x8_2 + ((rd_T32 l0 x9_2).f1))), (wrap64 (x9_2 + 1)), (by first | rfl | (simp; done) | (simp [*]; done)), (by first | rfl | (simp; done) | (simp [*]; done)), H', ⟨by have := HJ4.out; have := HK2.out; omega⟩, ⟨by (with_reducible repeat (first | apply Kd.R_alloc | apply Kd.R_drewN | apply Kd.R_drew)); exact Kd.R_mono HO38011.out (fun _ hk => trivial)⟩, ⟨by (with_reducible repeat (first | refine blk_drewN ?_ _ | refine blk_drew ?_ | refine blk_alloc ?_ _)); exact BK38001.out⟩, ⟨by repeat (first | exact HB.out | apply below_alloc | apply pw_below_drewN | apply below_drew1 | refine below_set ?_ GE38001.out)⟩⟩
         ·rw [if_neg c19] at H
          have c19b0 : decide ((ji16) < (ji18)) = false := decide_eq_false c19
          clear c19
          have H' := Aside0.mk H
          clear H
          have hcz26_0 : wr.cell? ⟨gb38001, 0, none⟩ = some (.int .i64 a1_0) := (blk_cell BK38001.out 0).trans rfl
          have hcz26_1 : wr.cell? ⟨gb38001, 1, none⟩ = some (.int .i64 a1_1) := (blk_cell BK38001.out 1).trans rfl
          have hfz26_0 := blk_frozen BK38001.out 0
          have hfz26_1 := blk_frozen BK38001.out 1
          have p38004 : 0 ≤ (x9_2 : Int) := of_decide_eq_true (by assumption)
          have q38004 : x9_2 < (l0.length : Int) := of_decide_eq_true (by assumption)
          obtain ⟨ad38004, e38004, hx38004_0, hx38004_1, hx38004_2⟩ := at_T32 HR0.out x9_2 p38004 q38004
          cases e38004
          replace hx38004_0 := (HB.out.cell (World.block_lt_of_cell? w _ hx38004_0)).trans hx38004_0
          replace hx38004_1 := (HB.out.cell (World.block_lt_of_cell? w _ hx38004_1)).trans hx38004_1
          replace hx38004_2 := (HB.out.cell (World.block_lt_of_cell? w _ hx38004_2)).trans hx38004_2
          replace p38004 := eq_true p38004
          replace q38004 := eq_true q38004
          have p38013 : 0 ≤ (x9_2 : Int) := of_decide_eq_true (by assumption)
          have q38013 : x9_2 < (l0.length : Int) := of_decide_eq_true (by assumption)
          obtain ⟨ad38013, e38013, hx38013_0, hx38013_1, hx38013_2⟩ := at_T32 HR0.out x9_2 p38013 q38013
          obtain rfl : ad38004 = ad38013 := (by injection e38013)
          replace hx38013_0 := (HB.out.cell (World.block_lt_of_cell? w _ hx38013_0)).trans hx38013_0
          replace hx38013_1 := (HB.out.cell (World.block_lt_of_cell? w _ hx38013_1)).trans hx38013_1
          replace hx38013_2 := (HB.out.cell (World.block_lt_of_cell? w _ hx38013_2)).trans hx38013_2
          replace p38013 := eq_true p38013
          replace q38013 := eq_true q38013
          go_wp2
          repeat (go_quiet (fail); try go_wp2)
          go_roundg k2
          case measure => have := HJ4.out; have := HK2.out; omega
          case rel => exact ⟨(x7_2), (wrap64 (x8_2 + ((rd_T32 l0 x9_2).f1))), (wrap64 (x9_2 + 1)), (by first | rfl | (simp; done) | (simp [*]; done)), (by first | rfl | (simp; done) | (simp [*]; done)), H', ⟨by have := HJ4.out; have := HK2.out; omega⟩, ⟨by (with_reducible repeat (first | apply Kd.R_alloc | apply Kd.R_drewN | apply Kd.R_drew)); exact HO_7.out⟩, ⟨by (with_reducible repeat (first | refine blk_drewN ?_ _ | refine blk_drew ?_ | refine blk_alloc ?_ _)); exact BK38001.out⟩, ⟨by repeat (first | exact HB.out | apply below_alloc | apply pw_below_drewN | apply below_drew1 | refine below_set ?_ GE38001.out)⟩⟩
        ·rw [if_neg c17] at H
         exact absurd H (by simp)
       ·rw [if_neg c15] at H
        have c15b0 : decide (x9_2 < (l0.length : Int)) = false := decide_eq_false c15
        clear c15
        simp only [Option.some.injEq, Prod.mk.injEq] at H
        obtain ⟨rfl, rfl⟩ := H
        go_wp2
        repeat (go_quiet (fail); try go_wp2)
        go_ret2
        exact ⟨_, by first | rfl | (simp [errW_none, errW_some] <;> rfl) | (simp [*, errW_none, errW_some] <;> rfl), by (with_reducible repeat (first | apply Kd.R_alloc | apply Kd.R_drewN | apply Kd.R_drew)); exact HO_7.out, by repeat (first | exact HB.out | apply below_alloc | apply pw_below_drewN | apply below_drew1 | refine below_set ?_ GE38001.out)⟩
 ·rw [if_neg c4] at H
  have c4b0 : (t38002 == 0) = false := beq_eq_false_iff_ne.mpr c4
  have c4b1 : (t38002 != 0) = true := bne_iff_ne.mpr c4
  simp only [Option.some.injEq, Prod.mk.injEq] at H
  obtain ⟨rfl, rfl⟩ := H
  go_enter Try.func37, Try.ntmps37
  go_wp2_with (first | ((with_reducible refine gate_dst (N := 3) rfl ?_); refine box_event ?hg (N := 3) ?hd (cs := #[.int .i64 a1_0, .int .i64 a1_1]) (t := 37) ?hr ?_; (case hd => rfl); (case hg => rfl); (case hr => first | (go_simp; done) | (go_simp; rfl)); intro gb38001 hg w27 hbox hb; have n0_ := Aside0.mk (below_step (by repeat (first | exact HB.out | apply below_alloc | apply pw_below_drewN | apply below_drew1)) hb); have n1_ := Aside0.mk (hbox); have n2_ := Aside0.mk ((by rw [hg]; exact (below_size (by repeat (first | exact HB.out | apply below_alloc | apply pw_below_drewN | apply below_drew1))) : w.heap.size ≤ gb38001)); have n3_ := Aside0.mk ((by rw [hg]; exact (below_size (by repeat (first | exact HB.out | apply below_alloc | apply pw_below_drewN | apply below_drew1))) : w.heap.size ≤ gb38001)); clear HB; have HB := n0_; have BK38001 := n1_; have GW38001 := n2_; have GE38001 := n3_; clear n0_ n1_ n2_ n3_; clear hb hbox hg) | (go_at_call 15; (with_reducible refine (papermillref13_Check.calls k _ _ l0 t38002 _ ?side1 ?side2 A3.out).mono ?_); (case side1 => repeat (first | exact (Kd.C_below HR0.out HB.out) | (with_reducible refine Kd.C_alloc ?_ _) | (with_reducible refine Kd.C_drewN ?_ _) | (with_reducible refine Kd.C_drew ?_))); (case side2 => exact HC0.out); rintro e w28 ⟨rfl, hb⟩; have n0_ := Aside0.mk (blk_below (g := gb38001) (o := .cells #[.int .i64 a1_0, .int .i64 a1_1] 37 (0, 0)) (by (with_reducible repeat (first | refine blk_drewN ?_ _ | refine blk_drew ?_ | refine blk_alloc ?_ _)); exact BK38001.out) hb); have n1_ := Aside0.mk (below_step (by repeat (first | exact HB.out | apply below_alloc | apply pw_below_drewN | apply below_drew1 | refine below_set ?_ GE38001.out)) hb); clear BK38001; clear HB; have BK38001 := n0_; have HB := n1_; clear n0_ n1_; (try clear hb); (try clear hb2); (try clear hk); (try clear hi)))
  repeat (go_quiet (first | ((with_reducible refine gate_dst (N := 3) rfl ?_); refine box_event ?hg (N := 3) ?hd (cs := #[.int .i64 a1_0, .int .i64 a1_1]) (t := 37) ?hr ?_; (case hd => rfl); (case hg => rfl); (case hr => first | (go_simp; done) | (go_simp; rfl)); intro gb38001 hg w27 hbox hb; have n0_ := Aside0.mk (below_step (by repeat (first | exact HB.out | apply below_alloc | apply pw_below_drewN | apply below_drew1)) hb); have n1_ := Aside0.mk (hbox); have n2_ := Aside0.mk ((by rw [hg]; exact (below_size (by repeat (first | exact HB.out | apply below_alloc | apply pw_below_drewN | apply below_drew1))) : w.heap.size ≤ gb38001)); have n3_ := Aside0.mk ((by rw [hg]; exact (below_size (by repeat (first | exact HB.out | apply below_alloc | apply pw_below_drewN | apply below_drew1))) : w.heap.size ≤ gb38001)); clear HB; have HB := n0_; have BK38001 := n1_; have GW38001 := n2_; have GE38001 := n3_; clear n0_ n1_ n2_ n3_; clear hb hbox hg) | (go_at_call 15; (with_reducible refine (papermillref13_Check.calls k _ _ l0 t38002 _ ?side1 ?side2 A3.out).mono ?_); (case side1 => repeat (first | exact (Kd.C_below HR0.out HB.out) | (with_reducible refine Kd.C_alloc ?_ _) | (with_reducible refine Kd.C_drewN ?_ _) | (with_reducible refine Kd.C_drew ?_))); (case side2 => exact HC0.out); rintro e w28 ⟨rfl, hb⟩; have n0_ := Aside0.mk (blk_below (g := gb38001) (o := .cells #[.int .i64 a1_0, .int .i64 a1_1] 37 (0, 0)) (by (with_reducible repeat (first | refine blk_drewN ?_ _ | refine blk_drew ?_ | refine blk_alloc ?_ _)); exact BK38001.out) hb); have n1_ := Aside0.mk (below_step (by repeat (first | exact HB.out | apply below_alloc | apply pw_below_drewN | apply below_drew1 | refine below_set ?_ GE38001.out)) hb); clear BK38001; clear HB; have BK38001 := n0_; have HB := n1_; clear n0_ n1_; (try clear hb); (try clear hb2); (try clear hk); (try clear hi))); try go_wp2_with (first | ((with_reducible refine gate_dst (N := 3) rfl ?_); refine box_event ?hg (N := 3) ?hd (cs := #[.int .i64 a1_0, .int .i64 a1_1]) (t := 37) ?hr ?_; (case hd => rfl); (case hg => rfl); (case hr => first | (go_simp; done) | (go_simp; rfl)); intro gb38001 hg w27 hbox hb; have n0_ := Aside0.mk (below_step (by repeat (first | exact HB.out | apply below_alloc | apply pw_below_drewN | apply below_drew1)) hb); have n1_ := Aside0.mk (hbox); have n2_ := Aside0.mk ((by rw [hg]; exact (below_size (by repeat (first | exact HB.out | apply below_alloc | apply pw_below_drewN | apply below_drew1))) : w.heap.size ≤ gb38001)); have n3_ := Aside0.mk ((by rw [hg]; exact (below_size (by repeat (first | exact HB.out | apply below_alloc | apply pw_below_drewN | apply below_drew1))) : w.heap.size ≤ gb38001)); clear HB; have HB := n0_; have BK38001 := n1_; have GW38001 := n2_; have GE38001 := n3_; clear n0_ n1_ n2_ n3_; clear hb hbox hg) | (go_at_call 15; (with_reducible refine (papermillref13_Check.calls k _ _ l0 t38002 _ ?side1 ?side2 A3.out).mono ?_); (case side1 => repeat (first | exact (Kd.C_below HR0.out HB.out) | (with_reducible refine Kd.C_alloc ?_ _) | (with_reducible refine Kd.C_drewN ?_ _) | (with_reducible refine Kd.C_drew ?_))); (case side2 => exact HC0.out); rintro e w28 ⟨rfl, hb⟩; have n0_ := Aside0.mk (blk_below (g := gb38001) (o := .cells #[.int .i64 a1_0, .int .i64 a1_1] 37 (0, 0)) (by (with_reducible repeat (first | refine blk_drewN ?_ _ | refine blk_drew ?_ | refine blk_alloc ?_ _)); exact BK38001.out) hb); have n1_ := Aside0.mk (below_step (by repeat (first | exact HB.out | apply below_alloc | apply pw_below_drewN | apply below_drew1 | refine below_set ?_ GE38001.out)) hb); clear BK38001; clear HB; have BK38001 := n0_; have HB := n1_; clear n0_ n1_; (try clear hb); (try clear hb2); (try clear hk); (try clear hi))))
  go_ret2
  exact ⟨_, by first | rfl | (simp [errW_none, errW_some] <;> rfl) | (simp [*, errW_none, errW_some] <;> rfl), by first | exact Kd.R_nil _ _ _ _ _ | exact Kd.N_nil _ _ _ _ _ | exact Kd.V_nil _ _ _ _ _ | exact Kd.Q_nil _ _ _ _ _ | exact Kd.S_nil _ _ _ _ _, by repeat (first | exact HB.out | apply below_alloc | apply pw_below_drewN | apply below_drew1 | refine below_set ?_ GE38001.out)⟩

end Go.Proofs.Ytcnkmdonbpgjiaa.G

namespace Go.Proofs.Ytcnkmdonbpgjiaa.G
open Go.RowKit Go.Proofs.YtcnkmdonbpgjiaaW.PrintWords Go.Proofs.YtcnkmdonbpgjiaaW.PrintLast Go.Proofs.YtcnkmdonbpgjiaaW.PrintMore
attribute [local go_sem] max2_int min2_int max_two min_two max_three min_three max_four min_four   -- for this text's walks alone
set_option linter.unusedVariables false
set_option linter.unusedSimpArgs false

def papermillref13_limited.f (l0 : List (S32)) : Option ((List (S32)) × Int) := if (l0.length : Int) > 256 then (some (([] : List (S32)), 8)) else (some (l0, 0))
set_option maxHeartbeats 8000000 in
set_option maxRecDepth 100000 in
theorem papermillref13_limited.calls (P0_ : Nat → Prop) (u9000_ : Value) (l0 : List (S32)) (r1 : List (S32)) (r2 : Int) (w0 w : World) (hB : Below w0.heap.size w0 w) (ho0 : Kd.R k32 32 w w0.heap.size P0_ u9000_ l0) (h : papermillref13_limited.f l0 = some (r1, r2)) :
    Calls Try.prog 54 #[u9000_] w fun e w' => ∃ v0_ : Value, e = .returned (.tuple #[v0_, .int .i64 r2]) ∧ Kd.R k32 32 w' w0.heap.size (fun k_ => (P0_ k_ ∨ w.heap.size ≤ k_)) v0_ r1 ∧ Below w0.heap.size w0 w' ∧ Kept w w' (fun k_ => P0_ k_) := by
  have HO0 := Aside0.mk (show Kd.R k32 32 w w0.heap.size (fun k_ => (P0_ k_ ∨ w.heap.size ≤ k_)) u9000_ l0 from Kd.R_mono ho0 (fun k_ hk => (.inl hk)))
  have HK := Aside0.mk (Kept.refl w (fun k_ => P0_ k_))
  have HW0 := Aside0.mk hB.size
  have HB := Aside0.mk hB
  clear hB
  have H : (if (l0.length : Int) > 256 then (some (([] : List (S32)), 8)) else (some (l0, 0))) = some (r1, r2) := h
  clear h
  by_cases c2 : (l0.length : Int) > 256
  · rw [if_pos c2] at H
    have c2b0 : decide (256 < (l0.length : Int)) = true := decide_eq_true c2
    have c2b1 : decide (256 < l0.length) = true := decide_eq_true (by omega)
    clear c2
    simp only [Option.some.injEq, Prod.mk.injEq] at H
    obtain ⟨rfl, rfl⟩ := H
    obtain ⟨Ao3, co3, eo3⟩ := Kd.R_slice HO0.out
    subst eo3
    go_enter Try.func54, Try.ntmps54
    go_wp2
    go_ret2
    exact ⟨_, by first | rfl | (simp [errW_none, errW_some] <;> rfl) | (simp [*, errW_none, errW_some] <;> rfl), by first | exact Kd.R_nil _ _ _ _ _ | exact Kd.N_nil _ _ _ _ _ | exact Kd.V_nil _ _ _ _ _ | exact Kd.Q_nil _ _ _ _ _ | exact Kd.S_nil _ _ _ _ _, by repeat (first | exact HB.out | apply below_alloc | apply pw_below_drewN | apply below_drew1), by repeat (first | (with_reducible first | exact HK.out | apply Kept.alloc | apply Kept.drewN | apply Kept.drew) | exact HK.out)⟩
  · rw [if_neg c2] at H
    have c2b0 : decide (256 < (l0.length : Int)) = false := decide_eq_false c2
    have c2b1 : decide (256 < l0.length) = false := decide_eq_false (by omega)
    clear c2
    simp only [Option.some.injEq, Prod.mk.injEq] at H
    obtain ⟨rfl, rfl⟩ := H
    obtain ⟨Ao4, co4, eo4⟩ := Kd.R_slice HO0.out
    subst eo4
    go_enter Try.func54, Try.ntmps54
    go_wp2
    go_ret2
    exact ⟨_, by first | rfl | (simp [errW_none, errW_some] <;> rfl) | (simp [*, errW_none, errW_some] <;> rfl), by exact HO0.out, by repeat (first | exact HB.out | apply below_alloc | apply pw_below_drewN | apply below_drew1), by repeat (first | (with_reducible first | exact HK.out | apply Kept.alloc | apply Kept.drewN | apply Kept.drew) | exact HK.out)⟩

end Go.Proofs.Ytcnkmdonbpgjiaa.G

namespace Go.Proofs.Ytcnkmdonbpgjiaa.G
open Go.RowKit Go.Proofs.YtcnkmdonbpgjiaaW.PrintWords Go.Proofs.YtcnkmdonbpgjiaaW.PrintLast Go.Proofs.YtcnkmdonbpgjiaaW.PrintMore
attribute [local go_sem] max2_int min2_int max_two min_two max_three min_three max_four min_four   -- for this text's walks alone
set_option linter.unusedVariables false
set_option linter.unusedSimpArgs false

def papermillref13_all.l0 : Nat → List (S32) → List (S32) → Int → Option ((List (S32)))
  | 0, _, _, _ => none
  | k + 1, x0, x3, x4 => if x4 < (x0.length : Int) then (if 0 ≤ x4 then ((papermillref13_more.f k x3 ((rd_T32 x0 x4).f0) ((rd_T32 x0 x4).f1) ((rd_T32 x0 x4).f2)).bind fun t57002 => (papermillref13_all.l0 k x0 t57002 (wrap64 (x4 + 1)))) else (none)) else (some x3)
def papermillref13_all.f (k : Nat) (l0 : List (S32)) : Option ((List (S32))) := papermillref13_all.l0 k l0 ([] : List (S32)) 0
theorem papermillref13_all.mono_l : ∀ k, (∀ y0 y1 y2, LeO (papermillref13_all.l0 k y0 y1 y2) (papermillref13_all.l0 (k + 1) y0 y1 y2))
  | 0 => fun _ _ _ r h => by simp [papermillref13_all.l0] at h
  | k + 1 => by
    have ih0 := papermillref13_all.mono_l k
    · intro y0 y1 y2
      unfold papermillref13_all.l0
      repeat' first
      | (with_reducible exact ih0 _ _ _)
      | (with_reducible exact papermillref13_more.mono _ _ _ _ _)
      | (with_reducible exact LeO.refl _)
      | (with_reducible exact LeO.none _)
      | (with_reducible refine LeO.ite ?_ ?_)
      | (with_reducible refine LeO.bind ?_ (fun _ => ?_))
      | exact ih0 _ _ _
      | exact papermillref13_more.mono _ _ _ _ _
      | exact LeO.none _
      | refine LeO.ite ?_ ?_
      | refine LeO.bind ?_ (fun _ => ?_)
theorem papermillref13_all.mono : ∀ a0 k, LeO (papermillref13_all.f k a0) (papermillref13_all.f (k + 1) a0) := by
  intro a0 k
  have ih0 := papermillref13_all.mono_l k
  unfold papermillref13_all.f
  repeat' first
      | (with_reducible exact ih0 _ _ _)
      | (with_reducible exact papermillref13_more.mono _ _ _ _ _)
      | (with_reducible exact LeO.refl _)
      | (with_reducible exact LeO.none _)
      | (with_reducible refine LeO.ite ?_ ?_)
      | (with_reducible refine LeO.bind ?_ (fun _ => ?_))
      | exact ih0 _ _ _
      | exact papermillref13_more.mono _ _ _ _ _
      | exact LeO.none _
      | refine LeO.ite ?_ ?_
      | refine LeO.bind ?_ (fun _ => ?_)
set_option maxHeartbeats 8000000 in
set_option maxRecDepth 100000 in
theorem papermillref13_all.calls (k : Nat) (A0 : Option Addr) (c0 : Nat) (l0 : List (S32)) (r : List (S32)) (w : World) (hr0 : Kd.C k32 w A0 l0.length l0) (hc0 : l0.length ≤ c0) (h : papermillref13_all.f k l0 = some r) :
    Calls Try.prog 56 #[.slice A0 l0.length c0] w fun e w' => ∃ v0_ : Value, e = .returned (v0_) ∧ Kd.R k32 32 w' w.heap.size (fun _ => True) v0_ r ∧ Below w.heap.size w w' := by
  have hu32 := Try.underlying32
  have HR0 := Aside0.mk hr0
  have HC0 := Aside0.mk hc0
  clear hr0 hc0
  have HB := Aside0.mk (Below.refl w.heap.size w)
  have H : (papermillref13_all.l0 k l0 ([] : List (S32)) 0) = some r := h
  clear h
  have H' := Aside0.mk H
  clear H
  go_enter Try.func56, Try.ntmps56
  go_wp2
  go_loopg [3, 4] k (fun kq v3 v4 w' => ∃ (x3_1 : List (S32)) (x4_1 : Int), v4 = .int .i64 x4_1 ∧ Aside0 (papermillref13_all.l0 kq l0 x3_1 x4_1 = some r) ∧ Aside0 (kq ≤ k) ∧ Aside0 (Kd.R k32 32 w' w.heap.size (fun _ => True) v3 x3_1) ∧ Aside0 (Below w.heap.size w w'))
  case atStart => exact ⟨(([] : List (S32))), (0), (by first | rfl | (simp; done) | (simp [*]; done)), H', ⟨Nat.le_refl _⟩, ⟨by first | exact Kd.R_nil _ _ _ _ _ | exact Kd.N_nil _ _ _ _ _ | exact Kd.V_nil _ _ _ _ _ | exact Kd.Q_nil _ _ _ _ _ | exact Kd.S_nil _ _ _ _ _⟩, ⟨by repeat (first | exact HB.out | apply below_alloc | apply pw_below_drewN | apply below_drew1)⟩⟩
  case round =>
    clear H'
    obtain ⟨x3_1, x4_1, rfl, HA, HK1, HO_3, HB⟩ := hrel
    cases gk with
    | zero => exact absurd HA.out (by simp [papermillref13_all.l0])
    | succ k1 =>
      have H := HA.out
      clear HA
      simp only [papermillref13_all.l0] at H
      by_cases c2 : x4_1 < (l0.length : Int)
      · rw [if_pos c2] at H
        have c2b0 : decide (x4_1 < (l0.length : Int)) = true := decide_eq_true c2
        clear c2
        by_cases c3 : 0 ≤ x4_1
        · rw [if_pos c3] at H
          have c3b0 : decide (0 ≤ x4_1) = true := decide_eq_true c3
          clear c3
          replace H := Option.bind_eq_some_iff.mp H
          obtain ⟨t57002, A40, H⟩ := H
          replace H : (papermillref13_all.l0 k1 l0 t57002 (wrap64 (x4_1 + 1))) = some r := H
          have A4 := Aside0.mk A40
          clear A40
          have H' := Aside0.mk H
          clear H
          have p57001 : 0 ≤ (x4_1 : Int) := of_decide_eq_true (by assumption)
          have q57001 : x4_1 < (l0.length : Int) := of_decide_eq_true (by assumption)
          obtain ⟨ad57001, e57001, hx57001_0, hx57001_1, hx57001_2⟩ := at_T32 HR0.out x4_1 p57001 q57001
          cases e57001
          replace hx57001_0 := (HB.out.cell (World.block_lt_of_cell? w _ hx57001_0)).trans hx57001_0
          replace hx57001_1 := (HB.out.cell (World.block_lt_of_cell? w _ hx57001_1)).trans hx57001_1
          replace hx57001_2 := (HB.out.cell (World.block_lt_of_cell? w _ hx57001_2)).trans hx57001_2
          replace p57001 := eq_true p57001
          replace q57001 := eq_true q57001
          obtain ⟨Ao5, co5, eo5⟩ := Kd.R_slice HO_3.out
          subst eo5
          go_wp2_with (first | ((with_reducible refine gate_callee (f := 52) rfl ?_); refine goesL_ (some 16) rfl rfl Try.func52 (by kernel_rfl) rfl #[.slice Ao5 x3_1.length co5, .agg #[.int .i64 ((rd_T32 l0 x4_1).f0), .int .i64 ((rd_T32 l0 x4_1).f1), .bool ((rd_T32 l0 x4_1).f2)]] rfl (by (try simp only [List.map_toArray, List.map_cons, List.map_nil]); first | done | rfl | (simp only [List.length_drop, List.length_take]; rfl)) ?_; (with_reducible refine (papermillref13_more.calls k1 _ _ x3_1 ((rd_T32 l0 x4_1).f0) ((rd_T32 l0 x4_1).f1) ((rd_T32 l0 x4_1).f2) t57002 _ ?side1 ?side2 A4.out).mono ?_); (case side1 => exact (Kd.R_reads' HO_3.out).2.2); (case side2 => exact (Kd.R_reads' HO_3.out).2.1); rintro e w6 ⟨v57003, rfl, ho0, hb⟩; refine ⟨_, rfl, ?_⟩; have n0_ := Aside0.mk (Kd.R_elder' (HO_3.out) (Kd.R_base ho0) hb); have n1_ := Aside0.mk (Kd.R_lower (Kd.R_new' ho0 (Kd.R_lt (HO_3.out))) (below_size (by repeat (first | exact HB.out | apply below_alloc | apply pw_below_drewN | apply below_drew1)))); have n2_ := Aside0.mk (below_step (by repeat (first | exact HB.out | apply below_alloc | apply pw_below_drewN | apply below_drew1)) hb); clear HO_3; clear HB; have HO_3 := n0_; have HO57004 := n1_; have HB := n2_; clear n0_ n1_ n2_; (try clear hb); (try clear hb2); (try clear hk); (try clear hi); (try clear ho0)))
          go_roundg k1
          case measure => have := HK1.out; omega
          case rel => exact ⟨(t57002), (wrap64 (x4_1 + 1)), (by first | rfl | (simp; done) | (simp [*]; done)), H', ⟨by have := HK1.out; omega⟩, ⟨by exact Kd.R_mono HO57004.out (fun _ hk => trivial)⟩, ⟨by repeat (first | exact HB.out | apply below_alloc | apply pw_below_drewN | apply below_drew1)⟩⟩
        · rw [if_neg c3] at H
          exact absurd H (by simp)
      · rw [if_neg c2] at H
        have c2b0 : decide (x4_1 < (l0.length : Int)) = false := decide_eq_false c2
        clear c2
        obtain rfl := Option.some.inj H
        go_wp2
        go_ret
        exact ⟨_, by first | rfl | (simp [errW_none, errW_some] <;> rfl) | (simp [*, errW_none, errW_some] <;> rfl), by exact HO_3.out, by repeat (first | exact HB.out | apply below_alloc | apply pw_below_drewN | apply below_drew1)⟩

end Go.Proofs.Ytcnkmdonbpgjiaa.G

namespace Go.Proofs.Ytcnkmdonbpgjiaa.G
open Go.RowKit Go.Proofs.YtcnkmdonbpgjiaaW.PrintWords Go.Proofs.YtcnkmdonbpgjiaaW.PrintLast Go.Proofs.YtcnkmdonbpgjiaaW.PrintMore
attribute [local go_sem] max2_int min2_int max_two min_two max_three min_three max_four min_four   -- for this text's walks alone
set_option linter.unusedVariables false
set_option linter.unusedSimpArgs false

def papermillref13_Join.f (k : Nat) (l0 : List (S32)) (l1 : List (S32)) : Option ((List (S32)) × Int) := (papermillref13_Check.f k l0).bind fun t40001 => (if t40001 = 0 then ((papermillref13_Check.f k l1).bind fun t40002 => (if t40002 = 0 then ((papermillref13_length.f k l0).bind fun t40003 => ((papermillref13_length.f k l1).bind fun t40004 => (if (wrap64 (t40003 + t40004)) > 17179869184 then (some (([] : List (S32)), 21)) else ((some (([] : List (S32)) : List (S32))).bind fun y40005 => (if y40005.length + l0.length < 5864062014805 then ((some (y40005 ++ l0 : List (S32))).bind fun y40008 => (if y40008.length + l1.length < 5864062014805 then ((papermillref13_all.f k (y40008 ++ l1)).bind fun t40014 => ((papermillref13_limited.f t40014).bind fun bt40017 => (some (bt40017.1, bt40017.2)))) else (none))) else (none)))))) else (some (([] : List (S32)), t40002)))) else (some (([] : List (S32)), t40001)))
theorem papermillref13_Join.mono : ∀ a0 a1 k, LeO (papermillref13_Join.f k a0 a1) (papermillref13_Join.f (k + 1) a0 a1) := by
 intro a0 a1 k
 unfold papermillref13_Join.f
 repeat' first
   | (with_reducible exact papermillref13_Check.mono _ _)
   | (with_reducible exact papermillref13_all.mono _ _)
   | (with_reducible exact papermillref13_length.mono _ _)
   | (with_reducible exact LeO.refl _)
   | (with_reducible exact LeO.none _)
   | (with_reducible refine LeO.ite ?_ ?_)
   | (with_reducible refine LeO.bind ?_ (fun _ => ?_))
   | exact papermillref13_Check.mono _ _
   | exact papermillref13_all.mono _ _
   | exact papermillref13_length.mono _ _
   | exact LeO.none _
   | refine LeO.ite ?_ ?_
   | refine LeO.bind ?_ (fun _ => ?_)
set_option maxHeartbeats 8000000 in
set_option maxRecDepth 100000 in
theorem papermillref13_Join.calls (k : Nat) (A0 : Option Addr) (c0 : Nat) (l0 : List (S32)) (A1 : Option Addr) (c1 : Nat) (l1 : List (S32)) (r1 : List (S32)) (r2 : Int) (w : World) (hr0 : Kd.C k32 w A0 l0.length l0) (hc0 : l0.length ≤ c0) (hr1 : Kd.C k32 w A1 l1.length l1) (hc1 : l1.length ≤ c1) (h : papermillref13_Join.f k l0 l1 = some (r1, r2)) :
  Calls Try.prog 39 #[.slice A0 l0.length c0, .slice A1 l1.length c1] w fun e w' => ∃ v0_ : Value, e = .returned (.tuple #[v0_, .int .i64 r2]) ∧ Kd.R k32 32 w' w.heap.size (fun _ => True) v0_ r1 ∧ Below w.heap.size w w' := by
 have HR0 := Aside0.mk hr0
 have HC0 := Aside0.mk hc0
 clear hr0 hc0
 have HR1 := Aside0.mk hr1
 have HC1 := Aside0.mk hc1
 clear hr1 hc1
 have HB := Aside0.mk (Below.refl w.heap.size w)
 have H : ((papermillref13_Check.f k l0).bind fun t40001 => (if t40001 = 0 then ((papermillref13_Check.f k l1).bind fun t40002 => (if t40002 = 0 then ((papermillref13_length.f k l0).bind fun t40003 => ((papermillref13_length.f k l1).bind fun t40004 => (if (wrap64 (t40003 + t40004)) > 17179869184 then (some (([] : List (S32)), 21)) else ((some (([] : List (S32)) : List (S32))).bind fun y40005 => (if y40005.length + l0.length < 5864062014805 then ((some (y40005 ++ l0 : List (S32))).bind fun y40008 => (if y40008.length + l1.length < 5864062014805 then ((papermillref13_all.f k (y40008 ++ l1)).bind fun t40014 => ((papermillref13_limited.f t40014).bind fun bt40017 => (some (bt40017.1, bt40017.2)))) else (none))) else (none)))))) else (some (([] : List (S32)), t40002)))) else (some (([] : List (S32)), t40001)))) = some (r1, r2) := h
 clear h
 replace H := Option.bind_eq_some_iff.mp H
 obtain ⟨t40001, A30, H⟩ := H
 replace H : (if t40001 = 0 then ((papermillref13_Check.f k l1).bind fun t40002 => (if t40002 = 0 then ((papermillref13_length.f k l0).bind fun t40003 => ((papermillref13_length.f k l1).bind fun t40004 => (if (wrap64 (t40003 + t40004)) > 17179869184 then (some (([] : List (S32)), 21)) else ((some (([] : List (S32)) : List (S32))).bind fun y40005 => (if y40005.length + l0.length < 5864062014805 then ((some (y40005 ++ l0 : List (S32))).bind fun y40008 => (if y40008.length + l1.length < 5864062014805 then ((papermillref13_all.f k (y40008 ++ l1)).bind fun t40014 => ((papermillref13_limited.f t40014).bind fun bt40017 => (some (bt40017.1, bt40017.2)))) else (none))) else (none)))))) else (some (([] : List (S32)), t40002)))) else (some (([] : List (S32)), t40001))) = some (r1, r2) := H
 have A3 := Aside0.mk A30
 clear A30
 by_cases c4 : t40001 = 0
 ·rw [if_pos c4] at H
  have c4b0 : (t40001 == 0) = true := beq_iff_eq.mpr c4
  have c4b1 : (t40001 != 0) = false := bne_eq_false_iff_eq.mpr c4
  clear c4
  replace H := Option.bind_eq_some_iff.mp H
  obtain ⟨t40002, A50, H⟩ := H
  replace H : (if t40002 = 0 then ((papermillref13_length.f k l0).bind fun t40003 => ((papermillref13_length.f k l1).bind fun t40004 => (if (wrap64 (t40003 + t40004)) > 17179869184 then (some (([] : List (S32)), 21)) else ((some (([] : List (S32)) : List (S32))).bind fun y40005 => (if y40005.length + l0.length < 5864062014805 then ((some (y40005 ++ l0 : List (S32))).bind fun y40008 => (if y40008.length + l1.length < 5864062014805 then ((papermillref13_all.f k (y40008 ++ l1)).bind fun t40014 => ((papermillref13_limited.f t40014).bind fun bt40017 => (some (bt40017.1, bt40017.2)))) else (none))) else (none)))))) else (some (([] : List (S32)), t40002))) = some (r1, r2) := H
  have A5 := Aside0.mk A50
  clear A50
  by_cases c6 : t40002 = 0
  ·rw [if_pos c6] at H
   have c6b0 : (t40002 == 0) = true := beq_iff_eq.mpr c6
   have c6b1 : (t40002 != 0) = false := bne_eq_false_iff_eq.mpr c6
   clear c6
   replace H := Option.bind_eq_some_iff.mp H
   obtain ⟨t40003, A70, H⟩ := H
   replace H : ((papermillref13_length.f k l1).bind fun t40004 => (if (wrap64 (t40003 + t40004)) > 17179869184 then (some (([] : List (S32)), 21)) else ((some (([] : List (S32)) : List (S32))).bind fun y40005 => (if y40005.length + l0.length < 5864062014805 then ((some (y40005 ++ l0 : List (S32))).bind fun y40008 => (if y40008.length + l1.length < 5864062014805 then ((papermillref13_all.f k (y40008 ++ l1)).bind fun t40014 => ((papermillref13_limited.f t40014).bind fun bt40017 => (some (bt40017.1, bt40017.2)))) else (none))) else (none))))) = some (r1, r2) := H
   have A7 := Aside0.mk A70
   clear A70
   replace H := Option.bind_eq_some_iff.mp H
   obtain ⟨t40004, A80, H⟩ := H
   replace H : (if (wrap64 (t40003 + t40004)) > 17179869184 then (some (([] : List (S32)), 21)) else ((some (([] : List (S32)) : List (S32))).bind fun y40005 => (if y40005.length + l0.length < 5864062014805 then ((some (y40005 ++ l0 : List (S32))).bind fun y40008 => (if y40008.length + l1.length < 5864062014805 then ((papermillref13_all.f k (y40008 ++ l1)).bind fun t40014 => ((papermillref13_limited.f t40014).bind fun bt40017 => (some (bt40017.1, bt40017.2)))) else (none))) else (none)))) = some (r1, r2) := H
   have A8 := Aside0.mk A80
   clear A80
   by_cases c9 : (wrap64 (t40003 + t40004)) > 17179869184
   ·rw [if_pos c9] at H
    have c9b0 : decide (17179869184 < (wrap64 (t40003 + t40004))) = true := decide_eq_true c9
    clear c9
    simp only [Option.some.injEq, Prod.mk.injEq] at H
    obtain ⟨rfl, rfl⟩ := H
    go_enter Try.func39, Try.ntmps39
    go_wp2_with (first | ((with_reducible refine gate_callee (f := 15) rfl ?_); refine goesL_ (some 9) rfl rfl Try.func15 (by kernel_rfl) rfl #[.slice A0 l0.length c0] rfl (by (try simp only [List.map_toArray, List.map_cons, List.map_nil]); first | done | rfl | (simp only [List.length_drop, List.length_take]; rfl)) ?_; (with_reducible refine (papermillref13_Check.calls k _ _ l0 t40001 _ ?side1 ?side2 A3.out).mono ?_); (case side1 => exact HR0.out); (case side2 => exact HC0.out); rintro e w10 ⟨rfl, hb⟩; refine ⟨_, rfl, ?_⟩; have n0_ := Aside0.mk (below_step (by repeat (first | exact HB.out | apply below_alloc | apply pw_below_drewN | apply below_drew1)) hb); clear HB; have HB := n0_; clear n0_; (try clear hb); (try clear hb2); (try clear hk); (try clear hi)) | ((with_reducible refine gate_callee (f := 15) rfl ?_); refine goesL_ (some 14) rfl rfl Try.func15 (by kernel_rfl) rfl #[.slice A1 l1.length c1] rfl (by (try simp only [List.map_toArray, List.map_cons, List.map_nil]); first | done | rfl | (simp only [List.length_drop, List.length_take]; rfl)) ?_; (with_reducible refine (papermillref13_Check.calls k _ _ l1 t40002 _ ?side1 ?side2 A5.out).mono ?_); (case side1 => exact (Kd.C_below HR1.out HB.out)); (case side2 => exact HC1.out); rintro e w11 ⟨rfl, hb⟩; refine ⟨_, rfl, ?_⟩; have n0_ := Aside0.mk (below_step (by repeat (first | exact HB.out | apply below_alloc | apply pw_below_drewN | apply below_drew1)) hb); clear HB; have HB := n0_; clear n0_; (try clear hb); (try clear hb2); (try clear hk); (try clear hi)) | ((with_reducible refine gate_callee (f := 42) rfl ?_); refine goesL_ (some 19) rfl rfl Try.func42 (by kernel_rfl) rfl #[.slice A0 l0.length c0] rfl (by (try simp only [List.map_toArray, List.map_cons, List.map_nil]); first | done | rfl | (simp only [List.length_drop, List.length_take]; rfl)) ?_; (with_reducible refine (papermillref13_length.calls k _ _ l0 t40003 _ ?side1 ?side2 A7.out).mono ?_); (case side1 => exact (Kd.C_below HR0.out HB.out)); (case side2 => exact HC0.out); rintro e w' ⟨rfl, ⟨nd, rfl⟩⟩; refine ⟨_, rfl, ?_⟩) | ((with_reducible refine gate_callee (f := 42) rfl ?_); refine goesL_ (some 21) rfl rfl Try.func42 (by kernel_rfl) rfl #[.slice A1 l1.length c1] rfl (by (try simp only [List.map_toArray, List.map_cons, List.map_nil]); first | done | rfl | (simp only [List.length_drop, List.length_take]; rfl)) ?_; (with_reducible refine (papermillref13_length.calls k _ _ l1 t40004 _ ?side1 ?side2 A8.out).mono ?_); (case side1 => repeat (first | exact (Kd.C_below HR1.out (by repeat (first | exact HB.out | apply below_alloc | apply pw_below_drewN | apply below_drew1))) | (with_reducible refine Kd.C_alloc ?_ _) | (with_reducible refine Kd.C_drewN ?_ _) | (with_reducible refine Kd.C_drew ?_))); (case side2 => exact HC1.out); rintro e w' ⟨rfl, ⟨nd, rfl⟩⟩; refine ⟨_, rfl, ?_⟩))
    go_ret2
    exact ⟨_, by first | rfl | (simp [errW_none, errW_some] <;> rfl) | (simp [*, errW_none, errW_some] <;> rfl), by first | exact Kd.R_nil _ _ _ _ _ | exact Kd.N_nil _ _ _ _ _ | exact Kd.V_nil _ _ _ _ _ | exact Kd.Q_nil _ _ _ _ _ | exact Kd.S_nil _ _ _ _ _, by repeat (first | exact HB.out | apply below_alloc | apply pw_below_drewN | apply below_drew1)⟩
   ·rw [if_neg c9] at H
    have c9b0 : decide (17179869184 < (wrap64 (t40003 + t40004))) = false := decide_eq_false c9
    clear c9
    obtain ⟨y40005, hy40005⟩ : ∃ y_ : List (S32), y_ = (([] : List (S32))) := ⟨_, rfl⟩
    replace H : (if y40005.length + l0.length < 5864062014805 then ((some (y40005 ++ l0 : List (S32))).bind fun y40008 => (if y40008.length + l1.length < 5864062014805 then ((papermillref13_all.f k (y40008 ++ l1)).bind fun t40014 => ((papermillref13_limited.f t40014).bind fun bt40017 => (some (bt40017.1, bt40017.2)))) else (none))) else (none)) = some (r1, r2) := by first | (rw [hy40005]; with_reducible exact H) | (have H2_ := (Option.bind_some _ _).symm.trans H; rw [hy40005]; with_reducible exact H2_) | (have H2_ := (Option.bind_some _ _).symm.trans H; with_reducible exact H2_) | with_reducible exact H | (rw [hy40005]; exact H) | exact H
    have Ny40005 := Aside0.mk hy40005
    clear hy40005
    by_cases c12 : y40005.length + l0.length < 5864062014805
    ·rw [if_pos c12] at H
     have LMc12 := Aside0.mk c12
     clear c12
     obtain ⟨y40008, hy40008⟩ : ∃ y_ : List (S32), y_ = (y40005 ++ l0) := ⟨_, rfl⟩
     replace H : (if y40008.length + l1.length < 5864062014805 then ((papermillref13_all.f k (y40008 ++ l1)).bind fun t40014 => ((papermillref13_limited.f t40014).bind fun bt40017 => (some (bt40017.1, bt40017.2)))) else (none)) = some (r1, r2) := by first | (rw [hy40008]; with_reducible exact H) | (have H2_ := (Option.bind_some _ _).symm.trans H; rw [hy40008]; with_reducible exact H2_) | (have H2_ := (Option.bind_some _ _).symm.trans H; with_reducible exact H2_) | with_reducible exact H | (rw [hy40008]; exact H) | exact H
     have Ny40008 := Aside0.mk hy40008
     clear hy40008
     by_cases c13 : y40008.length + l1.length < 5864062014805
     ·rw [if_pos c13] at H
      have LMc13 := Aside0.mk c13
      clear c13
      obtain ⟨y40011, hy40011⟩ : ∃ y_ : List (S32), y_ = (y40008 ++ l1) := ⟨_, rfl⟩
      replace H : ((papermillref13_all.f k y40011).bind fun t40014 => ((papermillref13_limited.f t40014).bind fun bt40017 => (some (bt40017.1, bt40017.2)))) = some (r1, r2) := by first | (rw [hy40011]; with_reducible exact H) | (have H2_ := (Option.bind_some _ _).symm.trans H; rw [hy40011]; with_reducible exact H2_) | (have H2_ := (Option.bind_some _ _).symm.trans H; with_reducible exact H2_) | with_reducible exact H | (rw [hy40011]; exact H) | exact H
      have Ny40011 := Aside0.mk hy40011
      clear hy40011
      replace H := Option.bind_eq_some_iff.mp H
      obtain ⟨t40014, A140, H⟩ := H
      replace H : ((papermillref13_limited.f t40014).bind fun bt40017 => (some (bt40017.1, bt40017.2))) = some (r1, r2) := H
      have A14 := Aside0.mk A140
      clear A140
      replace H := Option.bind_eq_some_iff.mp H
      obtain ⟨⟨t40017, t40020⟩, A150, H⟩ := H
      replace H : (some (t40017, t40020)) = some (r1, r2) := H
      have A15 := Aside0.mk A150
      clear A150
      simp only [Option.some.injEq, Prod.mk.injEq] at H
      obtain ⟨rfl, rfl⟩ := H
      go_enter Try.func39, Try.ntmps39
      go_wp2_with (first | ((with_reducible refine gate_callee (f := 15) rfl ?_); refine goesL_ (some 9) rfl rfl Try.func15 (by kernel_rfl) rfl #[.slice A0 l0.length c0] rfl (by (try simp only [List.map_toArray, List.map_cons, List.map_nil]); first | done | rfl | (simp only [List.length_drop, List.length_take]; rfl)) ?_; (with_reducible refine (papermillref13_Check.calls k _ _ l0 t40001 _ ?side1 ?side2 A3.out).mono ?_); (case side1 => exact HR0.out); (case side2 => exact HC0.out); rintro e w16 ⟨rfl, hb⟩; refine ⟨_, rfl, ?_⟩; have n0_ := Aside0.mk (below_step (by repeat (first | exact HB.out | apply below_alloc | apply pw_below_drewN | apply below_drew1)) hb); clear HB; have HB := n0_; clear n0_; (try clear hb); (try clear hb2); (try clear hk); (try clear hi)) | ((with_reducible refine gate_callee (f := 15) rfl ?_); refine goesL_ (some 14) rfl rfl Try.func15 (by kernel_rfl) rfl #[.slice A1 l1.length c1] rfl (by (try simp only [List.map_toArray, List.map_cons, List.map_nil]); first | done | rfl | (simp only [List.length_drop, List.length_take]; rfl)) ?_; (with_reducible refine (papermillref13_Check.calls k _ _ l1 t40002 _ ?side1 ?side2 A5.out).mono ?_); (case side1 => exact (Kd.C_below HR1.out HB.out)); (case side2 => exact HC1.out); rintro e w17 ⟨rfl, hb⟩; refine ⟨_, rfl, ?_⟩; have n0_ := Aside0.mk (below_step (by repeat (first | exact HB.out | apply below_alloc | apply pw_below_drewN | apply below_drew1)) hb); clear HB; have HB := n0_; clear n0_; (try clear hb); (try clear hb2); (try clear hk); (try clear hi)) | ((with_reducible refine gate_callee (f := 42) rfl ?_); refine goesL_ (some 19) rfl rfl Try.func42 (by kernel_rfl) rfl #[.slice A0 l0.length c0] rfl (by (try simp only [List.map_toArray, List.map_cons, List.map_nil]); first | done | rfl | (simp only [List.length_drop, List.length_take]; rfl)) ?_; (with_reducible refine (papermillref13_length.calls k _ _ l0 t40003 _ ?side1 ?side2 A7.out).mono ?_); (case side1 => exact (Kd.C_below HR0.out HB.out)); (case side2 => exact HC0.out); rintro e w' ⟨rfl, ⟨nd, rfl⟩⟩; refine ⟨_, rfl, ?_⟩) | ((with_reducible refine gate_callee (f := 42) rfl ?_); refine goesL_ (some 21) rfl rfl Try.func42 (by kernel_rfl) rfl #[.slice A1 l1.length c1] rfl (by (try simp only [List.map_toArray, List.map_cons, List.map_nil]); first | done | rfl | (simp only [List.length_drop, List.length_take]; rfl)) ?_; (with_reducible refine (papermillref13_length.calls k _ _ l1 t40004 _ ?side1 ?side2 A8.out).mono ?_); (case side1 => repeat (first | exact (Kd.C_below HR1.out (by repeat (first | exact HB.out | apply below_alloc | apply pw_below_drewN | apply below_drew1))) | (with_reducible refine Kd.C_alloc ?_ _) | (with_reducible refine Kd.C_drewN ?_ _) | (with_reducible refine Kd.C_drew ?_))); (case side2 => exact HC1.out); rintro e w' ⟨rfl, ⟨nd, rfl⟩⟩; refine ⟨_, rfl, ?_⟩) | ((with_reducible refine gate_dst (N := 24) rfl ?_); refine Kd.R_lit k32 _ 32 ?hg (N := 24) ?hd (xs := ([] : List (S32))) (inner := []) (ok := fun _ => True) (okp := fun _ => True) ?hr ?hp (fun _ hk => hk) trivial (Below.refl _ _) (Nat.le_refl _) (by simp) ?_; (case hd => rfl); (case hg => rfl); (case hr => first | (go_simp; done) | (go_simp; rfl)); (case hp => exact (Reps.none _ _)); intro v40006 w18 ho19 hb hg_ hnew_; clear hg_ hnew_; (first | rw [← Ny40005.out] at ho19 | (simp only [Int.reduceToNat] at ho19; rw [← Ny40005.out] at ho19)); have n0_ := Aside0.mk (Kd.R_lower ho19 (below_size (by repeat (first | exact HB.out | apply below_alloc | apply pw_below_drewN | apply below_drew1)))); have n1_ := Aside0.mk (below_step (by repeat (first | exact HB.out | apply below_alloc | apply pw_below_drewN | apply below_drew1)) hb); clear HB; have HO40007 := n0_; have HB := n1_; clear n0_ n1_; clear hb ho19) | ((with_reducible refine gate_builtin (b := .append) (xs := #[.tmp 24, .tmp 25]) rfl ?_); at_builtin; refine Kd.R_append_rows k32 (w0 := w) w.heap.size rfl (.tmp 24) (.tmp 25) 22 32 (.agg #[(.int .i64 0), (.int .i64 0), (.bool false)]) 24 rfl Try.underlying22 info32 rfl (by decide) (by omega) v40006 y40005 l0 _ _ _ (fun _ => True) (fun _ => False) rfl rfl ?aO ?aR (fun _ _ h => h) (fun _ h => h.elim) ?aF ?aB ?aS ?aL ?_; (case aR => exact (Kd.C_below HR0.out HB.out)); (case aB => exact (by repeat (first | exact HB.out | apply below_alloc | apply pw_below_drewN | apply below_drew1))); (case aF => exact (fun _ _ => trivial)); (case aO => exact (HO40007.out)); (case aS => exact (below_size (by repeat (first | exact HB.out | apply below_alloc | apply pw_below_drewN | apply below_drew1)))); (case aL => have := LMc12.out; omega); intro v40009 w20 ho hb hg hat; rw [← Ny40008.out] at ho; have n0_ := Aside0.mk (hb); have n1_ := Aside0.mk (ho); clear HB; clear HO40007; have HB := n0_; have HO40010 := n1_; clear n0_ n1_; clear ho hb hg hat) | ((with_reducible refine gate_builtin (b := .append) (xs := #[.tmp 26, .tmp 27]) rfl ?_); at_builtin; refine Kd.R_append_rows k32 (w0 := w) w.heap.size rfl (.tmp 26) (.tmp 27) 22 32 (.agg #[(.int .i64 0), (.int .i64 0), (.bool false)]) 24 rfl Try.underlying22 info32 rfl (by decide) (by omega) v40009 y40008 l1 _ _ _ (fun _ => True) (fun _ => False) rfl rfl ?aO ?aR (fun _ _ h => h) (fun _ h => h.elim) ?aF ?aB ?aS ?aL ?_; (case aR => exact (Kd.C_below HR1.out HB.out)); (case aB => exact (by repeat (first | exact HB.out | apply below_alloc | apply pw_below_drewN | apply below_drew1))); (case aF => exact (fun _ _ => trivial)); (case aO => exact (HO40010.out)); (case aS => exact (below_size (by repeat (first | exact HB.out | apply below_alloc | apply pw_below_drewN | apply below_drew1)))); (case aL => have := LMc13.out; omega); intro v40012 w21 ho hb hg hat; rw [← Ny40011.out] at ho; have n0_ := Aside0.mk (hb); have n1_ := Aside0.mk (ho); clear HB; clear HO40010; have HB := n0_; have HO40013 := n1_; clear n0_ n1_; clear ho hb hg hat; obtain ⟨Ao22, co22, eo22⟩ := Kd.R_slice HO40013.out; subst eo22) | ((with_reducible refine gate_callee (f := 56) rfl ?_); refine goesL_ (some 29) rfl rfl Try.func56 (by kernel_rfl) rfl #[.slice Ao22 y40011.length co22] rfl (by (try simp only [List.map_toArray, List.map_cons, List.map_nil]); first | done | rfl | (simp only [List.length_drop, List.length_take]; rfl)) ?_; (with_reducible refine (papermillref13_all.calls k _ _ y40011 t40014 _ ?side1 ?side2 A14.out).mono ?_); (case side1 => exact (Kd.R_reads' HO40013.out).2.2); (case side2 => exact (Kd.R_reads' HO40013.out).2.1); rintro e w23 ⟨v40015, rfl, ho0, hb⟩; refine ⟨_, rfl, ?_⟩; have n0_ := Aside0.mk (Kd.R_elder' (HO40013.out) (Kd.R_base ho0) hb); have n1_ := Aside0.mk (Kd.R_lower (Kd.R_new' ho0 (Kd.R_lt (HO40013.out))) (below_size (by repeat (first | exact HB.out | apply below_alloc | apply pw_below_drewN | apply below_drew1)))); have n2_ := Aside0.mk (below_step (by repeat (first | exact HB.out | apply below_alloc | apply pw_below_drewN | apply below_drew1)) hb); clear HO40013; clear HB; have HO40013 := n0_; have HO40016 := n1_; have HB := n2_; clear n0_ n1_ n2_; (try clear hb); (try clear hb2); (try clear hk); (try clear hi); (try clear ho0); obtain ⟨Ao24, co24, eo24⟩ := Kd.R_slice HO40016.out; subst eo24) | ((with_reducible refine gate_callee (f := 54) rfl ?_); refine goesL_ (some 30) rfl rfl Try.func54 (by kernel_rfl) rfl #[.slice Ao24 t40014.length co24] rfl (by (try simp only [List.map_toArray, List.map_cons, List.map_nil]); first | done | rfl | (simp only [List.length_drop, List.length_take]; rfl)) ?_; (with_reducible refine (papermillref13_limited.calls (fun k_ => some k_ = (.slice Ao24 t40014.length co24 : Value).ownBlock) (.slice Ao24 t40014.length co24) t40014 t40017 t40020 w _ ?side1 ?side2 A15.out).mono ?_); (case side1 => repeat (first | exact HB.out | apply below_alloc | apply pw_below_drewN | apply below_drew1)); (case side2 => exact Kd.R_tight rfl HO40016.out); rintro e w25 ⟨v40018, rfl, ho0, hb, hkp⟩; refine ⟨_, rfl, ?_⟩; have n0_ := Aside0.mk (Kd.R_mono (ok' := fun k_ => some k_ ≠ (v40018 : Value).ownBlock) (Kd.R_keptB (HO40013.out) hkp (fun k_ hk_ hs_ => (hk_.2) hs_)) (fun k_ hk_ => fun e_ => Or.elim (ho0.1 k_ e_.symm) (fun hs_ => hk_.2.1 hs_) (fun hn_ => Nat.not_le.2 hk_.2.2 hn_))); have n1_ := Aside0.mk (Kd.R_mono (ok' := fun k_ => some k_ ≠ (.slice Ao22 y40011.length co22 : Value).ownBlock) ho0 (fun k_ hk_ => Or.elim hk_ (fun hs_ => fun e_ => (((HO40013.out).1 k_ e_.symm).2) hs_) (fun hn_ => (Kd.fresh' (Kd.R_lt (HO40013.out)) k_ hn_)))); have n2_ := Aside0.mk (hb); clear HO40013; clear HB; clear HO40016; have HO40013 := n0_; have HO40019 := n1_; have HB := n2_; clear n0_ n1_ n2_; (try clear hb); (try clear hkp); (try clear ho0)))
      go_ret2
      exact ⟨_, by first | rfl | (simp [errW_none, errW_some] <;> rfl) | (simp [*, errW_none, errW_some] <;> rfl), by exact Kd.R_mono HO40019.out (fun _ hk => trivial), by repeat (first | exact HB.out | apply below_alloc | apply pw_below_drewN | apply below_drew1)⟩
     ·rw [if_neg c13] at H
      exact absurd H (by simp)
    ·rw [if_neg c12] at H
     exact absurd H (by simp)
  ·rw [if_neg c6] at H
   have c6b0 : (t40002 == 0) = false := beq_eq_false_iff_ne.mpr c6
   have c6b1 : (t40002 != 0) = true := bne_iff_ne.mpr c6
   simp only [Option.some.injEq, Prod.mk.injEq] at H
   obtain ⟨rfl, rfl⟩ := H
   go_enter Try.func39, Try.ntmps39
   go_wp2_with (first | ((with_reducible refine gate_callee (f := 15) rfl ?_); refine goesL_ (some 9) rfl rfl Try.func15 (by kernel_rfl) rfl #[.slice A0 l0.length c0] rfl (by (try simp only [List.map_toArray, List.map_cons, List.map_nil]); first | done | rfl | (simp only [List.length_drop, List.length_take]; rfl)) ?_; (with_reducible refine (papermillref13_Check.calls k _ _ l0 t40001 _ ?side1 ?side2 A3.out).mono ?_); (case side1 => exact HR0.out); (case side2 => exact HC0.out); rintro e w26 ⟨rfl, hb⟩; refine ⟨_, rfl, ?_⟩; have n0_ := Aside0.mk (below_step (by repeat (first | exact HB.out | apply below_alloc | apply pw_below_drewN | apply below_drew1)) hb); clear HB; have HB := n0_; clear n0_; (try clear hb); (try clear hb2); (try clear hk); (try clear hi)) | ((with_reducible refine gate_callee (f := 15) rfl ?_); refine goesL_ (some 14) rfl rfl Try.func15 (by kernel_rfl) rfl #[.slice A1 l1.length c1] rfl (by (try simp only [List.map_toArray, List.map_cons, List.map_nil]); first | done | rfl | (simp only [List.length_drop, List.length_take]; rfl)) ?_; (with_reducible refine (papermillref13_Check.calls k _ _ l1 t40002 _ ?side1 ?side2 A5.out).mono ?_); (case side1 => exact (Kd.C_below HR1.out HB.out)); (case side2 => exact HC1.out); rintro e w27 ⟨rfl, hb⟩; refine ⟨_, rfl, ?_⟩; have n0_ := Aside0.mk (below_step (by repeat (first | exact HB.out | apply below_alloc | apply pw_below_drewN | apply below_drew1)) hb); clear HB; have HB := n0_; clear n0_; (try clear hb); (try clear hb2); (try clear hk); (try clear hi)))
   go_ret2
   exact ⟨_, by first | rfl | (simp [errW_none, errW_some] <;> rfl) | (simp [*, errW_none, errW_some] <;> rfl), by first | exact Kd.R_nil _ _ _ _ _ | exact Kd.N_nil _ _ _ _ _ | exact Kd.V_nil _ _ _ _ _ | exact Kd.Q_nil _ _ _ _ _ | exact Kd.S_nil _ _ _ _ _, by repeat (first | exact HB.out | apply below_alloc | apply pw_below_drewN | apply below_drew1)⟩
 ·rw [if_neg c4] at H
  have c4b0 : (t40001 == 0) = false := beq_eq_false_iff_ne.mpr c4
  have c4b1 : (t40001 != 0) = true := bne_iff_ne.mpr c4
  simp only [Option.some.injEq, Prod.mk.injEq] at H
  obtain ⟨rfl, rfl⟩ := H
  go_enter Try.func39, Try.ntmps39
  go_wp2_with (first | ((with_reducible refine gate_callee (f := 15) rfl ?_); refine goesL_ (some 9) rfl rfl Try.func15 (by kernel_rfl) rfl #[.slice A0 l0.length c0] rfl (by (try simp only [List.map_toArray, List.map_cons, List.map_nil]); first | done | rfl | (simp only [List.length_drop, List.length_take]; rfl)) ?_; (with_reducible refine (papermillref13_Check.calls k _ _ l0 t40001 _ ?side1 ?side2 A3.out).mono ?_); (case side1 => exact HR0.out); (case side2 => exact HC0.out); rintro e w28 ⟨rfl, hb⟩; refine ⟨_, rfl, ?_⟩; have n0_ := Aside0.mk (below_step (by repeat (first | exact HB.out | apply below_alloc | apply pw_below_drewN | apply below_drew1)) hb); clear HB; have HB := n0_; clear n0_; (try clear hb); (try clear hb2); (try clear hk); (try clear hi)))
  go_ret2
  exact ⟨_, by first | rfl | (simp [errW_none, errW_some] <;> rfl) | (simp [*, errW_none, errW_some] <;> rfl), by first | exact Kd.R_nil _ _ _ _ _ | exact Kd.N_nil _ _ _ _ _ | exact Kd.V_nil _ _ _ _ _ | exact Kd.Q_nil _ _ _ _ _ | exact Kd.S_nil _ _ _ _ _, by repeat (first | exact HB.out | apply below_alloc | apply pw_below_drewN | apply below_drew1)⟩

end Go.Proofs.Ytcnkmdonbpgjiaa.G
